/-
  No cell of these rows narrows 'for every input' (looked for: loops, veiled, ifaces, maps, wideKeys, modest, calm, conditions, laid).
  DERIVED. THE GIVEN ROWS OF THIS SEAT. 7 by the template 'for every input the law returns true; each argument reads behind the call as it read before'; 0 by the template 'total and deterministic' (their statements: YtjoboiegkbmgmaaTotals.lean).
  GIVEN WITH THE SEED: the statements are not yours to turn. If you find one false, say at which input.
  Laid BY PROGRAM, IN A SANDBOX (cutbox-rows.mjs): the forced cells as the released guide's own fill.sh prints them over the translation 89e8e63b3a6b0cbb… (all of the seat's roots in one cut). By AI agents, Wed Nov 11 2026. No macro, syntax, notation, axiom, sorry.
-/
import Derived.Test.YtjoboiegkbmgmaaChecked
import GoSem.Claim
import GoSem.ClaimJoined
import GoSem.ClaimMapViews
import Derived.JoinedTies
import Derived.KernelRfl
namespace Go.Proofs.Ytjoboiegkbmgmaa
/- THE CELL 'sum', in the pinned program and in every row, IS THE sha256 OF THE DUMP (.gsa) THAT YtjoboiegkbmgmaaProg.lean LOADS. Nothing in Lean hashes anything: it is a label: what it is worth is what the hold of that sum in a sandbox is worth. -/
noncomputable def Try.pinned : Pinned := { name := "ytjoboiegkbmgmaa", sum := "89e8e63b3a6b0cbb74a0e595de4924f5f1bd442aeeecc5cb5646d567833db2b8", checked := Try.checked }
namespace Rows
def none {H : Type} : Left H := { results := [], args := [] }

/-- 'scrivenerlaw17.ReaderRound': WHATEVER THE INPUT: true; the input reads as it did. -/
def readerRoundSpec : ChangeSpec := { name := "readerRound", fn := fun _ => fun
  | [d1, d2, d3, d4, d5, d6, d7] => { results := [.lit (.bool true)], args := [d1, d2, d3, d4, d5, d6, d7] }
  | _ => none }
def readerRoundRow : OpenClaim := { program := "ytjoboiegkbmgmaa", sum := "89e8e63b3a6b0cbb74a0e595de4924f5f1bd442aeeecc5cb5646d567833db2b8", func := "scrivener/scrivenerlaw17.ReaderRound", spec := "readerRound", unfollowed := true, recurses := true, apart := false }
def ReaderRoundSaid : Prop := readerRoundRow.holds Try.pinned (OpenSpec.ofChange readerRoundSpec)

/-- ITS FALSE NEIGHBOUR: 'it returns false'. Refute it at one input. -/
def readerRoundWrong : ChangeSpec := { name := "readerRound", fn := fun _ => fun
  | [d1, d2, d3, d4, d5, d6, d7] => { results := [.lit (.bool false)], args := [d1, d2, d3, d4, d5, d6, d7] }
  | _ => none }
def ReaderRoundWrongFalsely : Prop := readerRoundRow.holds Try.pinned (OpenSpec.ofChange readerRoundWrong)

/-- 'scrivenerlaw17.ReaderStays': WHATEVER THE INPUT: true; the input reads as it did. -/
def readerStaysSpec : ChangeSpec := { name := "readerStays", fn := fun _ => fun
  | [d1, d2, d3, d4, d5] => { results := [.lit (.bool true)], args := [d1, d2, d3, d4, d5] }
  | _ => none }
def readerStaysRow : OpenClaim := { program := "ytjoboiegkbmgmaa", sum := "89e8e63b3a6b0cbb74a0e595de4924f5f1bd442aeeecc5cb5646d567833db2b8", func := "scrivener/scrivenerlaw17.ReaderStays", spec := "readerStays", unfollowed := true, recurses := true, apart := false }
def ReaderStaysSaid : Prop := readerStaysRow.holds Try.pinned (OpenSpec.ofChange readerStaysSpec)

/-- ITS FALSE NEIGHBOUR: 'it returns false'. Refute it at one input. -/
def readerStaysWrong : ChangeSpec := { name := "readerStays", fn := fun _ => fun
  | [d1, d2, d3, d4, d5] => { results := [.lit (.bool false)], args := [d1, d2, d3, d4, d5] }
  | _ => none }
def ReaderStaysWrongFalsely : Prop := readerStaysRow.holds Try.pinned (OpenSpec.ofChange readerStaysWrong)

/-- 'scrivenerlaw17.ReaderPlays': WHATEVER THE INPUT: true; the input reads as it did. -/
def readerPlaysSpec : ChangeSpec := { name := "readerPlays", fn := fun _ => fun
  | [d1, d2, d3, d4, d5] => { results := [.lit (.bool true)], args := [d1, d2, d3, d4, d5] }
  | _ => none }
def readerPlaysRow : OpenClaim := { program := "ytjoboiegkbmgmaa", sum := "89e8e63b3a6b0cbb74a0e595de4924f5f1bd442aeeecc5cb5646d567833db2b8", func := "scrivener/scrivenerlaw17.ReaderPlays", spec := "readerPlays", unfollowed := true, recurses := true, apart := false }
def ReaderPlaysSaid : Prop := readerPlaysRow.holds Try.pinned (OpenSpec.ofChange readerPlaysSpec)

/-- ITS FALSE NEIGHBOUR: 'it returns false'. Refute it at one input. -/
def readerPlaysWrong : ChangeSpec := { name := "readerPlays", fn := fun _ => fun
  | [d1, d2, d3, d4, d5] => { results := [.lit (.bool false)], args := [d1, d2, d3, d4, d5] }
  | _ => none }
def ReaderPlaysWrongFalsely : Prop := readerPlaysRow.holds Try.pinned (OpenSpec.ofChange readerPlaysWrong)

/-- 'scrivenerlaw18.CopierEnds': WHATEVER THE INPUT: true; the input reads as it did. -/
def copierEndsSpec : ChangeSpec := { name := "copierEnds", fn := fun _ => fun
  | [d1, d2, d3, d4] => { results := [.lit (.bool true)], args := [d1, d2, d3, d4] }
  | _ => none }
def copierEndsRow : OpenClaim := { program := "ytjoboiegkbmgmaa", sum := "89e8e63b3a6b0cbb74a0e595de4924f5f1bd442aeeecc5cb5646d567833db2b8", func := "scrivener/scrivenerlaw18.CopierEnds", spec := "copierEnds", unfollowed := true, recurses := true, apart := false }
def CopierEndsSaid : Prop := copierEndsRow.holds Try.pinned (OpenSpec.ofChange copierEndsSpec)

/-- ITS FALSE NEIGHBOUR: 'it returns false'. Refute it at one input. -/
def copierEndsWrong : ChangeSpec := { name := "copierEnds", fn := fun _ => fun
  | [d1, d2, d3, d4] => { results := [.lit (.bool false)], args := [d1, d2, d3, d4] }
  | _ => none }
def CopierEndsWrongFalsely : Prop := copierEndsRow.holds Try.pinned (OpenSpec.ofChange copierEndsWrong)

/-- 'scrivenerlaw18.CopierDone': WHATEVER THE INPUT: true; the input reads as it did. -/
def copierDoneSpec : ChangeSpec := { name := "copierDone", fn := fun _ => fun
  | [d1, d2, d3, d4, d5] => { results := [.lit (.bool true)], args := [d1, d2, d3, d4, d5] }
  | _ => none }
def copierDoneRow : OpenClaim := { program := "ytjoboiegkbmgmaa", sum := "89e8e63b3a6b0cbb74a0e595de4924f5f1bd442aeeecc5cb5646d567833db2b8", func := "scrivener/scrivenerlaw18.CopierDone", spec := "copierDone", unfollowed := true, recurses := true, apart := false }
def CopierDoneSaid : Prop := copierDoneRow.holds Try.pinned (OpenSpec.ofChange copierDoneSpec)

/-- ITS FALSE NEIGHBOUR: 'it returns false'. Refute it at one input. -/
def copierDoneWrong : ChangeSpec := { name := "copierDone", fn := fun _ => fun
  | [d1, d2, d3, d4, d5] => { results := [.lit (.bool false)], args := [d1, d2, d3, d4, d5] }
  | _ => none }
def CopierDoneWrongFalsely : Prop := copierDoneRow.holds Try.pinned (OpenSpec.ofChange copierDoneWrong)

/-- 'scrivenerlaw18.CopierSteady': WHATEVER THE INPUT: true; the input reads as it did. -/
def copierSteadySpec : ChangeSpec := { name := "copierSteady", fn := fun _ => fun
  | [d1, d2, d3, d4, d5] => { results := [.lit (.bool true)], args := [d1, d2, d3, d4, d5] }
  | _ => none }
def copierSteadyRow : OpenClaim := { program := "ytjoboiegkbmgmaa", sum := "89e8e63b3a6b0cbb74a0e595de4924f5f1bd442aeeecc5cb5646d567833db2b8", func := "scrivener/scrivenerlaw18.CopierSteady", spec := "copierSteady", unfollowed := true, recurses := true, apart := false }
def CopierSteadySaid : Prop := copierSteadyRow.holds Try.pinned (OpenSpec.ofChange copierSteadySpec)

/-- ITS FALSE NEIGHBOUR: 'it returns false'. Refute it at one input. -/
def copierSteadyWrong : ChangeSpec := { name := "copierSteady", fn := fun _ => fun
  | [d1, d2, d3, d4, d5] => { results := [.lit (.bool false)], args := [d1, d2, d3, d4, d5] }
  | _ => none }
def CopierSteadyWrongFalsely : Prop := copierSteadyRow.holds Try.pinned (OpenSpec.ofChange copierSteadyWrong)

/-- 'scrivenerlaw16.RecoveryTwice': WHATEVER THE INPUT: true; the input reads as it did. -/
def recoveryTwiceSpec : ChangeSpec := { name := "recoveryTwice", fn := fun _ => fun
  | [d1, d2, d3, d4] => { results := [.lit (.bool true)], args := [d1, d2, d3, d4] }
  | _ => none }
def recoveryTwiceRow : OpenClaim := { program := "ytjoboiegkbmgmaa", sum := "89e8e63b3a6b0cbb74a0e595de4924f5f1bd442aeeecc5cb5646d567833db2b8", func := "scrivener/scrivenerlaw16.RecoveryTwice", spec := "recoveryTwice", unfollowed := true, recurses := true, apart := false }
def RecoveryTwiceSaid : Prop := recoveryTwiceRow.holds Try.pinned (OpenSpec.ofChange recoveryTwiceSpec)

/-- ITS FALSE NEIGHBOUR: 'it returns false'. Refute it at one input. -/
def recoveryTwiceWrong : ChangeSpec := { name := "recoveryTwice", fn := fun _ => fun
  | [d1, d2, d3, d4] => { results := [.lit (.bool false)], args := [d1, d2, d3, d4] }
  | _ => none }
def RecoveryTwiceWrongFalsely : Prop := recoveryTwiceRow.holds Try.pinned (OpenSpec.ofChange recoveryTwiceWrong)

/- THE SECOND FORM. 'bulk': how many values and letters a reading holds, each counted each time it is reached (what is shared counts as often as it is met; a slice's spare places count too). A statement '..UptoSaid' is the law's where the arguments, and the package variables that the reading takes, are together of bulk at most 1048576: NARROWER than '..Said'. Prove '..Said' where nothing that the law and all that it calls make is longer than what came in: it says more and counts as full. Else prove '..UptoSaid'. A law counts once. -/
mutual
def uptoBulk {H : Type} : DataW H → Nat
  | .lit (.string bytes) => bytes.length + 1
  | .lit _ => 1
  | .nil => 1
  | .ptr d => uptoBulk d + 1
  | .slice elems spare => uptoBulkAll elems + uptoBulkAll spare + 1
  | .agg parts => uptoBulkAll parts + 1
  | .iface _ d => uptoBulk d + 1
  | .map entries => uptoBulkEntries entries + 1
  | .held _ => 1
def uptoBulkAll {H : Type} : List (DataW H) → Nat
  | [] => 0
  | d :: r => uptoBulk d + uptoBulkAll r
def uptoBulkEntries {H : Type} : List (Lit × DataW H) → Nat
  | [] => 0
  | x :: r => uptoBulkEntry x + uptoBulkEntries r
def uptoBulkEntry {H : Type} : Lit × DataW H → Nat
  | (.string bytes, d) => bytes.length + uptoBulk d + 1
  | (_, d) => uptoBulk d + 1
 end
def uptoSmall : (H : Type) → List (DataW H) → Bool := fun _ ds => decide (uptoBulkAll ds ≤ 1048576)
def OpenSpec.upto (s : _root_.Go.ChangeSpec) : _root_.Go.OpenSpec := { _root_.Go.OpenSpec.ofChange s with cond := some uptoSmall }

/-- 'scrivenerlaw17.ReaderRound', WHERE WHAT IT READS IS OF BULK AT MOST 1048576: true; the input reads as it did. -/
def readerRoundUptoRow : OpenClaim := { program := "ytjoboiegkbmgmaa", sum := "89e8e63b3a6b0cbb74a0e595de4924f5f1bd442aeeecc5cb5646d567833db2b8", func := "scrivener/scrivenerlaw17.ReaderRound", spec := "readerRound", unfollowed := true, recurses := true, apart := false, narrowed := true }
def ReaderRoundUptoSaid : Prop := readerRoundUptoRow.holds Try.pinned (OpenSpec.upto readerRoundSpec)

/-- 'scrivenerlaw17.ReaderStays', WHERE WHAT IT READS IS OF BULK AT MOST 1048576: true; the input reads as it did. -/
def readerStaysUptoRow : OpenClaim := { program := "ytjoboiegkbmgmaa", sum := "89e8e63b3a6b0cbb74a0e595de4924f5f1bd442aeeecc5cb5646d567833db2b8", func := "scrivener/scrivenerlaw17.ReaderStays", spec := "readerStays", unfollowed := true, recurses := true, apart := false, narrowed := true }
def ReaderStaysUptoSaid : Prop := readerStaysUptoRow.holds Try.pinned (OpenSpec.upto readerStaysSpec)

/-- 'scrivenerlaw17.ReaderPlays', WHERE WHAT IT READS IS OF BULK AT MOST 1048576: true; the input reads as it did. -/
def readerPlaysUptoRow : OpenClaim := { program := "ytjoboiegkbmgmaa", sum := "89e8e63b3a6b0cbb74a0e595de4924f5f1bd442aeeecc5cb5646d567833db2b8", func := "scrivener/scrivenerlaw17.ReaderPlays", spec := "readerPlays", unfollowed := true, recurses := true, apart := false, narrowed := true }
def ReaderPlaysUptoSaid : Prop := readerPlaysUptoRow.holds Try.pinned (OpenSpec.upto readerPlaysSpec)

/-- 'scrivenerlaw18.CopierEnds', WHERE WHAT IT READS IS OF BULK AT MOST 1048576: true; the input reads as it did. -/
def copierEndsUptoRow : OpenClaim := { program := "ytjoboiegkbmgmaa", sum := "89e8e63b3a6b0cbb74a0e595de4924f5f1bd442aeeecc5cb5646d567833db2b8", func := "scrivener/scrivenerlaw18.CopierEnds", spec := "copierEnds", unfollowed := true, recurses := true, apart := false, narrowed := true }
def CopierEndsUptoSaid : Prop := copierEndsUptoRow.holds Try.pinned (OpenSpec.upto copierEndsSpec)

/-- 'scrivenerlaw18.CopierDone', WHERE WHAT IT READS IS OF BULK AT MOST 1048576: true; the input reads as it did. -/
def copierDoneUptoRow : OpenClaim := { program := "ytjoboiegkbmgmaa", sum := "89e8e63b3a6b0cbb74a0e595de4924f5f1bd442aeeecc5cb5646d567833db2b8", func := "scrivener/scrivenerlaw18.CopierDone", spec := "copierDone", unfollowed := true, recurses := true, apart := false, narrowed := true }
def CopierDoneUptoSaid : Prop := copierDoneUptoRow.holds Try.pinned (OpenSpec.upto copierDoneSpec)

/-- 'scrivenerlaw18.CopierSteady', WHERE WHAT IT READS IS OF BULK AT MOST 1048576: true; the input reads as it did. -/
def copierSteadyUptoRow : OpenClaim := { program := "ytjoboiegkbmgmaa", sum := "89e8e63b3a6b0cbb74a0e595de4924f5f1bd442aeeecc5cb5646d567833db2b8", func := "scrivener/scrivenerlaw18.CopierSteady", spec := "copierSteady", unfollowed := true, recurses := true, apart := false, narrowed := true }
def CopierSteadyUptoSaid : Prop := copierSteadyUptoRow.holds Try.pinned (OpenSpec.upto copierSteadySpec)

/-- 'scrivenerlaw16.RecoveryTwice', WHERE WHAT IT READS IS OF BULK AT MOST 1048576: true; the input reads as it did. -/
def recoveryTwiceUptoRow : OpenClaim := { program := "ytjoboiegkbmgmaa", sum := "89e8e63b3a6b0cbb74a0e595de4924f5f1bd442aeeecc5cb5646d567833db2b8", func := "scrivener/scrivenerlaw16.RecoveryTwice", spec := "recoveryTwice", unfollowed := true, recurses := true, apart := false, narrowed := true }
def RecoveryTwiceUptoSaid : Prop := recoveryTwiceUptoRow.holds Try.pinned (OpenSpec.upto recoveryTwiceSpec)

end Rows
end Go.Proofs.Ytjoboiegkbmgmaa
