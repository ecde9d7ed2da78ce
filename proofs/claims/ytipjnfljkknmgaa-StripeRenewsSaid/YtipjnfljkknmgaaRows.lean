/-
  No cell of these rows narrows 'for every input' (looked for: loops, veiled, ifaces, maps, wideKeys, modest, calm, conditions, laid).
  DERIVED. THE GIVEN ROWS OF THIS SEAT. 7 by the template 'for every input the law returns true; each argument reads behind the call as it read before'; 0 by the template 'total and deterministic' (their statements: YtipjnfljkknmgaaTotals.lean).
  GIVEN WITH THE SEED: the statements are not yours to turn. If you find one false, say at which input.
  Laid BY PROGRAM, IN A SANDBOX (cutbox-rows.mjs): the forced cells as the released guide's own fill.sh prints them over the translation fe34b8623add6e8d… (all of the seat's roots in one cut). By AI agents, Wed Nov 11 2026. No macro, syntax, notation, axiom, sorry.
-/
import Derived.Test.YtipjnfljkknmgaaChecked
import GoSem.Claim
import GoSem.ClaimJoined
import GoSem.ClaimMapViews
import Derived.JoinedTies
import Derived.KernelRfl
namespace Go.Proofs.Ytipjnfljkknmgaa
/- THE CELL 'sum', in the pinned program and in every row, IS THE sha256 OF THE DUMP (.gsa) THAT YtipjnfljkknmgaaProg.lean LOADS. Nothing in Lean hashes anything: it is a label: what it is worth is what the hold of that sum in a sandbox is worth. -/
noncomputable def Try.pinned : Pinned := { name := "ytipjnfljkknmgaa", sum := "fe34b8623add6e8d1da8c6315ae8283f0fb1e6d30ad18f1ee550d3494dd74111", checked := Try.checked }
namespace Rows
def none {H : Type} : Left H := { results := [], args := [] }

/-- 'scrivenerlaw14.StripeMeets': WHATEVER THE INPUT: true; the input reads as it did. -/
def stripeMeetsSpec : ChangeSpec := { name := "stripeMeets", fn := fun _ => fun
  | [d1, d2, d3, d4, d5, d6] => { results := [.lit (.bool true)], args := [d1, d2, d3, d4, d5, d6] }
  | _ => none }
def stripeMeetsRow : OpenClaim := { program := "ytipjnfljkknmgaa", sum := "fe34b8623add6e8d1da8c6315ae8283f0fb1e6d30ad18f1ee550d3494dd74111", func := "scrivener/scrivenerlaw14.StripeMeets", spec := "stripeMeets", unfollowed := true, recurses := true, apart := false }
def StripeMeetsSaid : Prop := stripeMeetsRow.holds Try.pinned (OpenSpec.ofChange stripeMeetsSpec)

/-- ITS FALSE NEIGHBOUR: 'it returns false'. Refute it at one input. -/
def stripeMeetsWrong : ChangeSpec := { name := "stripeMeets", fn := fun _ => fun
  | [d1, d2, d3, d4, d5, d6] => { results := [.lit (.bool false)], args := [d1, d2, d3, d4, d5, d6] }
  | _ => none }
def StripeMeetsWrongFalsely : Prop := stripeMeetsRow.holds Try.pinned (OpenSpec.ofChange stripeMeetsWrong)

/-- 'scrivenerlaw14.StripeRound': WHATEVER THE INPUT: true; the input reads as it did. -/
def stripeRoundSpec : ChangeSpec := { name := "stripeRound", fn := fun _ => fun
  | [d1, d2, d3] => { results := [.lit (.bool true)], args := [d1, d2, d3] }
  | _ => none }
def stripeRoundRow : OpenClaim := { program := "ytipjnfljkknmgaa", sum := "fe34b8623add6e8d1da8c6315ae8283f0fb1e6d30ad18f1ee550d3494dd74111", func := "scrivener/scrivenerlaw14.StripeRound", spec := "stripeRound", unfollowed := true, recurses := true, apart := false }
def StripeRoundSaid : Prop := stripeRoundRow.holds Try.pinned (OpenSpec.ofChange stripeRoundSpec)

/-- ITS FALSE NEIGHBOUR: 'it returns false'. Refute it at one input. -/
def stripeRoundWrong : ChangeSpec := { name := "stripeRound", fn := fun _ => fun
  | [d1, d2, d3] => { results := [.lit (.bool false)], args := [d1, d2, d3] }
  | _ => none }
def StripeRoundWrongFalsely : Prop := stripeRoundRow.holds Try.pinned (OpenSpec.ofChange stripeRoundWrong)

/-- 'scrivenerlaw14.StripeCounts': WHATEVER THE INPUT: true; the input reads as it did. -/
def stripeCountsSpec : ChangeSpec := { name := "stripeCounts", fn := fun _ => fun
  | [d1, d2, d3, d4, d5] => { results := [.lit (.bool true)], args := [d1, d2, d3, d4, d5] }
  | _ => none }
def stripeCountsRow : OpenClaim := { program := "ytipjnfljkknmgaa", sum := "fe34b8623add6e8d1da8c6315ae8283f0fb1e6d30ad18f1ee550d3494dd74111", func := "scrivener/scrivenerlaw14.StripeCounts", spec := "stripeCounts", unfollowed := true, recurses := true, apart := false }
def StripeCountsSaid : Prop := stripeCountsRow.holds Try.pinned (OpenSpec.ofChange stripeCountsSpec)

/-- ITS FALSE NEIGHBOUR: 'it returns false'. Refute it at one input. -/
def stripeCountsWrong : ChangeSpec := { name := "stripeCounts", fn := fun _ => fun
  | [d1, d2, d3, d4, d5] => { results := [.lit (.bool false)], args := [d1, d2, d3, d4, d5] }
  | _ => none }
def StripeCountsWrongFalsely : Prop := stripeCountsRow.holds Try.pinned (OpenSpec.ofChange stripeCountsWrong)

/-- 'scrivenerlaw14.StripeMore': WHATEVER THE INPUT: true; the input reads as it did. -/
def stripeMoreSpec : ChangeSpec := { name := "stripeMore", fn := fun _ => fun
  | [d1, d2, d3, d4, d5, d6] => { results := [.lit (.bool true)], args := [d1, d2, d3, d4, d5, d6] }
  | _ => none }
def stripeMoreRow : OpenClaim := { program := "ytipjnfljkknmgaa", sum := "fe34b8623add6e8d1da8c6315ae8283f0fb1e6d30ad18f1ee550d3494dd74111", func := "scrivener/scrivenerlaw14.StripeMore", spec := "stripeMore", unfollowed := true, recurses := true, apart := false }
def StripeMoreSaid : Prop := stripeMoreRow.holds Try.pinned (OpenSpec.ofChange stripeMoreSpec)

/-- ITS FALSE NEIGHBOUR: 'it returns false'. Refute it at one input. -/
def stripeMoreWrong : ChangeSpec := { name := "stripeMore", fn := fun _ => fun
  | [d1, d2, d3, d4, d5, d6] => { results := [.lit (.bool false)], args := [d1, d2, d3, d4, d5, d6] }
  | _ => none }
def StripeMoreWrongFalsely : Prop := stripeMoreRow.holds Try.pinned (OpenSpec.ofChange stripeMoreWrong)

/-- 'scrivenerlaw14.StripePicks': WHATEVER THE INPUT: true; the input reads as it did. -/
def stripePicksSpec : ChangeSpec := { name := "stripePicks", fn := fun _ => fun
  | [d1, d2, d3, d4, d5, d6, d7] => { results := [.lit (.bool true)], args := [d1, d2, d3, d4, d5, d6, d7] }
  | _ => none }
def stripePicksRow : OpenClaim := { program := "ytipjnfljkknmgaa", sum := "fe34b8623add6e8d1da8c6315ae8283f0fb1e6d30ad18f1ee550d3494dd74111", func := "scrivener/scrivenerlaw14.StripePicks", spec := "stripePicks", unfollowed := true, recurses := true, apart := false }
def StripePicksSaid : Prop := stripePicksRow.holds Try.pinned (OpenSpec.ofChange stripePicksSpec)

/-- ITS FALSE NEIGHBOUR: 'it returns false'. Refute it at one input. -/
def stripePicksWrong : ChangeSpec := { name := "stripePicks", fn := fun _ => fun
  | [d1, d2, d3, d4, d5, d6, d7] => { results := [.lit (.bool false)], args := [d1, d2, d3, d4, d5, d6, d7] }
  | _ => none }
def StripePicksWrongFalsely : Prop := stripePicksRow.holds Try.pinned (OpenSpec.ofChange stripePicksWrong)

/-- 'scrivenerlaw14.StripeRenews': WHATEVER THE INPUT: true; the input reads as it did. -/
def stripeRenewsSpec : ChangeSpec := { name := "stripeRenews", fn := fun _ => fun
  | [d1, d2, d3, d4, d5] => { results := [.lit (.bool true)], args := [d1, d2, d3, d4, d5] }
  | _ => none }
def stripeRenewsRow : OpenClaim := { program := "ytipjnfljkknmgaa", sum := "fe34b8623add6e8d1da8c6315ae8283f0fb1e6d30ad18f1ee550d3494dd74111", func := "scrivener/scrivenerlaw14.StripeRenews", spec := "stripeRenews", unfollowed := true, recurses := true, apart := false }
def StripeRenewsSaid : Prop := stripeRenewsRow.holds Try.pinned (OpenSpec.ofChange stripeRenewsSpec)

/-- ITS FALSE NEIGHBOUR: 'it returns false'. Refute it at one input. -/
def stripeRenewsWrong : ChangeSpec := { name := "stripeRenews", fn := fun _ => fun
  | [d1, d2, d3, d4, d5] => { results := [.lit (.bool false)], args := [d1, d2, d3, d4, d5] }
  | _ => none }
def StripeRenewsWrongFalsely : Prop := stripeRenewsRow.holds Try.pinned (OpenSpec.ofChange stripeRenewsWrong)

/-- 'scrivenerlaw14.StripeFresh': WHATEVER THE INPUT: true; the input reads as it did. -/
def stripeFreshSpec : ChangeSpec := { name := "stripeFresh", fn := fun _ => fun
  | [d1, d2, d3, d4, d5] => { results := [.lit (.bool true)], args := [d1, d2, d3, d4, d5] }
  | _ => none }
def stripeFreshRow : OpenClaim := { program := "ytipjnfljkknmgaa", sum := "fe34b8623add6e8d1da8c6315ae8283f0fb1e6d30ad18f1ee550d3494dd74111", func := "scrivener/scrivenerlaw14.StripeFresh", spec := "stripeFresh", unfollowed := true, recurses := true, apart := false }
def StripeFreshSaid : Prop := stripeFreshRow.holds Try.pinned (OpenSpec.ofChange stripeFreshSpec)

/-- ITS FALSE NEIGHBOUR: 'it returns false'. Refute it at one input. -/
def stripeFreshWrong : ChangeSpec := { name := "stripeFresh", fn := fun _ => fun
  | [d1, d2, d3, d4, d5] => { results := [.lit (.bool false)], args := [d1, d2, d3, d4, d5] }
  | _ => none }
def StripeFreshWrongFalsely : Prop := stripeFreshRow.holds Try.pinned (OpenSpec.ofChange stripeFreshWrong)

/- THE SECOND FORM. 'bulk': how many values and letters a reading holds, each counted each time it is reached (what is shared counts as often as it is met; a slice's spare places count too). A statement '..UptoSaid' is the law's where the arguments, and the package variables that the reading takes, are together of bulk at most 1048576: NARROWER than '..Said'. Prove '..Said' where nothing that the law and all that it calls make is longer than what came in: it says more and counts as full. Else prove '..UptoSaid'. A law counts once. -/
mutual
def uptoBulk {H : Type} : DataW H → Nat
  | .lit (.string bytes) => bytes.length + 1
  | .lit _ => 1
  | .nil => 1
  | .ptr d => uptoBulk d + 1
  | .slice elems spare => uptoBulkAll elems + uptoBulkAll spare + 1
  | .agg parts => uptoBulkAll parts + 1
  | .iface _ d => uptoBulk d + 1
  | .map entries => uptoBulkEntries entries + 1
  | .held _ => 1
def uptoBulkAll {H : Type} : List (DataW H) → Nat
  | [] => 0
  | d :: r => uptoBulk d + uptoBulkAll r
def uptoBulkEntries {H : Type} : List (Lit × DataW H) → Nat
  | [] => 0
  | x :: r => uptoBulkEntry x + uptoBulkEntries r
def uptoBulkEntry {H : Type} : Lit × DataW H → Nat
  | (.string bytes, d) => bytes.length + uptoBulk d + 1
  | (_, d) => uptoBulk d + 1
 end
def uptoSmall : (H : Type) → List (DataW H) → Bool := fun _ ds => decide (uptoBulkAll ds ≤ 1048576)
def OpenSpec.upto (s : _root_.Go.ChangeSpec) : _root_.Go.OpenSpec := { _root_.Go.OpenSpec.ofChange s with cond := some uptoSmall }

/-- 'scrivenerlaw14.StripeMeets', WHERE WHAT IT READS IS OF BULK AT MOST 1048576: true; the input reads as it did. -/
def stripeMeetsUptoRow : OpenClaim := { program := "ytipjnfljkknmgaa", sum := "fe34b8623add6e8d1da8c6315ae8283f0fb1e6d30ad18f1ee550d3494dd74111", func := "scrivener/scrivenerlaw14.StripeMeets", spec := "stripeMeets", unfollowed := true, recurses := true, apart := false, narrowed := true }
def StripeMeetsUptoSaid : Prop := stripeMeetsUptoRow.holds Try.pinned (OpenSpec.upto stripeMeetsSpec)

/-- 'scrivenerlaw14.StripeRound', WHERE WHAT IT READS IS OF BULK AT MOST 1048576: true; the input reads as it did. -/
def stripeRoundUptoRow : OpenClaim := { program := "ytipjnfljkknmgaa", sum := "fe34b8623add6e8d1da8c6315ae8283f0fb1e6d30ad18f1ee550d3494dd74111", func := "scrivener/scrivenerlaw14.StripeRound", spec := "stripeRound", unfollowed := true, recurses := true, apart := false, narrowed := true }
def StripeRoundUptoSaid : Prop := stripeRoundUptoRow.holds Try.pinned (OpenSpec.upto stripeRoundSpec)

/-- 'scrivenerlaw14.StripeCounts', WHERE WHAT IT READS IS OF BULK AT MOST 1048576: true; the input reads as it did. -/
def stripeCountsUptoRow : OpenClaim := { program := "ytipjnfljkknmgaa", sum := "fe34b8623add6e8d1da8c6315ae8283f0fb1e6d30ad18f1ee550d3494dd74111", func := "scrivener/scrivenerlaw14.StripeCounts", spec := "stripeCounts", unfollowed := true, recurses := true, apart := false, narrowed := true }
def StripeCountsUptoSaid : Prop := stripeCountsUptoRow.holds Try.pinned (OpenSpec.upto stripeCountsSpec)

/-- 'scrivenerlaw14.StripeMore', WHERE WHAT IT READS IS OF BULK AT MOST 1048576: true; the input reads as it did. -/
def stripeMoreUptoRow : OpenClaim := { program := "ytipjnfljkknmgaa", sum := "fe34b8623add6e8d1da8c6315ae8283f0fb1e6d30ad18f1ee550d3494dd74111", func := "scrivener/scrivenerlaw14.StripeMore", spec := "stripeMore", unfollowed := true, recurses := true, apart := false, narrowed := true }
def StripeMoreUptoSaid : Prop := stripeMoreUptoRow.holds Try.pinned (OpenSpec.upto stripeMoreSpec)

/-- 'scrivenerlaw14.StripePicks', WHERE WHAT IT READS IS OF BULK AT MOST 1048576: true; the input reads as it did. -/
def stripePicksUptoRow : OpenClaim := { program := "ytipjnfljkknmgaa", sum := "fe34b8623add6e8d1da8c6315ae8283f0fb1e6d30ad18f1ee550d3494dd74111", func := "scrivener/scrivenerlaw14.StripePicks", spec := "stripePicks", unfollowed := true, recurses := true, apart := false, narrowed := true }
def StripePicksUptoSaid : Prop := stripePicksUptoRow.holds Try.pinned (OpenSpec.upto stripePicksSpec)

/-- 'scrivenerlaw14.StripeRenews', WHERE WHAT IT READS IS OF BULK AT MOST 1048576: true; the input reads as it did. -/
def stripeRenewsUptoRow : OpenClaim := { program := "ytipjnfljkknmgaa", sum := "fe34b8623add6e8d1da8c6315ae8283f0fb1e6d30ad18f1ee550d3494dd74111", func := "scrivener/scrivenerlaw14.StripeRenews", spec := "stripeRenews", unfollowed := true, recurses := true, apart := false, narrowed := true }
def StripeRenewsUptoSaid : Prop := stripeRenewsUptoRow.holds Try.pinned (OpenSpec.upto stripeRenewsSpec)

/-- 'scrivenerlaw14.StripeFresh', WHERE WHAT IT READS IS OF BULK AT MOST 1048576: true; the input reads as it did. -/
def stripeFreshUptoRow : OpenClaim := { program := "ytipjnfljkknmgaa", sum := "fe34b8623add6e8d1da8c6315ae8283f0fb1e6d30ad18f1ee550d3494dd74111", func := "scrivener/scrivenerlaw14.StripeFresh", spec := "stripeFresh", unfollowed := true, recurses := true, apart := false, narrowed := true }
def StripeFreshUptoSaid : Prop := stripeFreshUptoRow.holds Try.pinned (OpenSpec.upto stripeFreshSpec)

end Rows
end Go.Proofs.Ytipjnfljkknmgaa
