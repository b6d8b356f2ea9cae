/-
  NARROWER THAN 'FOR EVERY INPUT', by the rows' own cells (each row's printed sentence says how): IdentRanges: laid · IdentLongest: laid · IdentWhole: laid · IdentValid: laid · IdentSplits: laid.
  DERIVED. THE GIVEN ROWS OF THIS SEAT. 5 by the template 'for every input the law returns true; each argument reads behind the call as it read before'; 0 by the template 'total and deterministic' (their statements: YtjfcmiocmcdjlaaGreatDoorTotals.lean).
  GIVEN WITH THE SEED: the statements are not yours to turn. If you find one false, say at which input.
  Laid BY PROGRAM, IN A SANDBOX (cutbox-rows.mjs): the forced cells as the released guide's own fill.sh prints them over the translation 73f0617b017058a1… (all of the seat's roots in one cut). By AI agents, Wed Nov 11 2026. No macro, syntax, notation, axiom, sorry.
-/
import Derived.Test.YtjfcmiocmcdjlaaGreatDoorChecked
import GoSem.Claim
import GoSem.ClaimJoined
import GoSem.ClaimMapViews
import Derived.JoinedTies
import Derived.KernelRfl
namespace Go.Proofs.YtjfcmiocmcdjlaaGreatDoor
/- THE CELL 'sum', in the pinned program and in every row, IS THE sha256 OF THE DUMP (.gsa) THAT YtjfcmiocmcdjlaaGreatDoorProg.lean LOADS. Nothing in Lean hashes anything: it is a label: what it is worth is what the hold of that sum in a sandbox is worth. -/
noncomputable def Tryz.pinned : Pinned := { name := "ytjfcmiocmcdjlaagreatdoor", sum := "73f0617b017058a1ee06e0c5a5505fbbe66bda0a9356d274eeb80e722f372d69", checked := Tryz.checked }
namespace Rows
def none {H : Type} : Left H := { results := [], args := [] }

/- WHAT THE LISTED PACKAGE-LEVEL VARIABLES READ AS WHEN THE CALL BEGINS. Each datum BY PROGRAM (the guide's laid-datum.mjs) off the statement by which the dump's own 'gosem.cut.vars' lays the variable. In a bare row this is a premise. The card (YtjfcmiocmcdjlaaGreatDoorCards.lean) ties it to the program's text. -/
def laid_unicodetext_ordering_ranges {H : Type} : DataW H := .agg [.agg [.lit (.int .i64 4352), .lit (.int .i64 4370)], .agg [.lit (.int .i64 4449), .lit (.int .i64 4469)], .agg [.lit (.int .i64 4520), .lit (.int .i64 4546)], .agg [.lit (.int .i64 44032), .lit (.int .i64 55203)]]

/-- 'unicodetextlaw39.IdentRanges': WHATEVER THE INPUT: true; the input reads as it did. -/
def identRangesSpec : ChangeSpec := { name := "identRanges", fn := fun _ => fun
  | [d1, d2] => { results := [.lit (.bool true)], args := [d1, d2] }
  | _ => none }
def identRangesRow : OpenClaim := { program := "ytjfcmiocmcdjlaagreatdoor", sum := "73f0617b017058a1ee06e0c5a5505fbbe66bda0a9356d274eeb80e722f372d69", func := "unicodetext/unicodetextlaw39.IdentRanges", spec := "identRanges", inPlace := ["internal/bytealg.abigen_runtime_cmpstring"], unfollowed := true, recurses := true, named := ["unicodetext/ordering.ranges"], plainKeys := false, apart := false, laid := [("unicodetext/ordering.ranges", laid_unicodetext_ordering_ranges)] }
def IdentRangesSaid : Prop := identRangesRow.holds Tryz.pinned (OpenSpec.ofChange identRangesSpec)

/-- ITS FALSE NEIGHBOUR: 'it returns false'. Refute it at one input. -/
def identRangesWrong : ChangeSpec := { name := "identRanges", fn := fun _ => fun
  | [d1, d2] => { results := [.lit (.bool false)], args := [d1, d2] }
  | _ => none }
def IdentRangesWrongFalsely : Prop := identRangesRow.holds Tryz.pinned (OpenSpec.ofChange identRangesWrong)

/-- 'unicodetextlaw39.IdentLongest': WHATEVER THE INPUT: true; the input reads as it did. -/
def identLongestSpec : ChangeSpec := { name := "identLongest", fn := fun _ => fun
  | [d1, d2] => { results := [.lit (.bool true)], args := [d1, d2] }
  | _ => none }
def identLongestRow : OpenClaim := { program := "ytjfcmiocmcdjlaagreatdoor", sum := "73f0617b017058a1ee06e0c5a5505fbbe66bda0a9356d274eeb80e722f372d69", func := "unicodetext/unicodetextlaw39.IdentLongest", spec := "identLongest", inPlace := ["internal/bytealg.abigen_runtime_cmpstring"], unfollowed := true, recurses := true, named := ["unicodetext/ordering.ranges"], plainKeys := false, apart := false, laid := [("unicodetext/ordering.ranges", laid_unicodetext_ordering_ranges)] }
def IdentLongestSaid : Prop := identLongestRow.holds Tryz.pinned (OpenSpec.ofChange identLongestSpec)

/-- ITS FALSE NEIGHBOUR: 'it returns false'. Refute it at one input. -/
def identLongestWrong : ChangeSpec := { name := "identLongest", fn := fun _ => fun
  | [d1, d2] => { results := [.lit (.bool false)], args := [d1, d2] }
  | _ => none }
def IdentLongestWrongFalsely : Prop := identLongestRow.holds Tryz.pinned (OpenSpec.ofChange identLongestWrong)

/-- 'unicodetextlaw39.IdentWhole': WHATEVER THE INPUT: true; the input reads as it did. -/
def identWholeSpec : ChangeSpec := { name := "identWhole", fn := fun _ => fun
  | [d1, d2] => { results := [.lit (.bool true)], args := [d1, d2] }
  | _ => none }
def identWholeRow : OpenClaim := { program := "ytjfcmiocmcdjlaagreatdoor", sum := "73f0617b017058a1ee06e0c5a5505fbbe66bda0a9356d274eeb80e722f372d69", func := "unicodetext/unicodetextlaw39.IdentWhole", spec := "identWhole", inPlace := ["internal/bytealg.abigen_runtime_cmpstring"], unfollowed := true, recurses := true, named := ["unicodetext/ordering.ranges"], plainKeys := false, apart := false, laid := [("unicodetext/ordering.ranges", laid_unicodetext_ordering_ranges)] }
def IdentWholeSaid : Prop := identWholeRow.holds Tryz.pinned (OpenSpec.ofChange identWholeSpec)

/-- ITS FALSE NEIGHBOUR: 'it returns false'. Refute it at one input. -/
def identWholeWrong : ChangeSpec := { name := "identWhole", fn := fun _ => fun
  | [d1, d2] => { results := [.lit (.bool false)], args := [d1, d2] }
  | _ => none }
def IdentWholeWrongFalsely : Prop := identWholeRow.holds Tryz.pinned (OpenSpec.ofChange identWholeWrong)

/-- 'unicodetextlaw39.IdentValid': WHATEVER THE INPUT: true; the input reads as it did. -/
def identValidSpec : ChangeSpec := { name := "identValid", fn := fun _ => fun
  | [d1, d2] => { results := [.lit (.bool true)], args := [d1, d2] }
  | _ => none }
def identValidRow : OpenClaim := { program := "ytjfcmiocmcdjlaagreatdoor", sum := "73f0617b017058a1ee06e0c5a5505fbbe66bda0a9356d274eeb80e722f372d69", func := "unicodetext/unicodetextlaw39.IdentValid", spec := "identValid", inPlace := ["internal/bytealg.abigen_runtime_cmpstring"], unfollowed := true, recurses := true, named := ["unicodetext/ordering.ranges"], plainKeys := false, apart := false, laid := [("unicodetext/ordering.ranges", laid_unicodetext_ordering_ranges)] }
def IdentValidSaid : Prop := identValidRow.holds Tryz.pinned (OpenSpec.ofChange identValidSpec)

/-- ITS FALSE NEIGHBOUR: 'it returns false'. Refute it at one input. -/
def identValidWrong : ChangeSpec := { name := "identValid", fn := fun _ => fun
  | [d1, d2] => { results := [.lit (.bool false)], args := [d1, d2] }
  | _ => none }
def IdentValidWrongFalsely : Prop := identValidRow.holds Tryz.pinned (OpenSpec.ofChange identValidWrong)

/-- 'unicodetextlaw39.IdentSplits': WHATEVER THE INPUT: true; the input reads as it did. -/
def identSplitsSpec : ChangeSpec := { name := "identSplits", fn := fun _ => fun
  | [d1, d2] => { results := [.lit (.bool true)], args := [d1, d2] }
  | _ => none }
def identSplitsRow : OpenClaim := { program := "ytjfcmiocmcdjlaagreatdoor", sum := "73f0617b017058a1ee06e0c5a5505fbbe66bda0a9356d274eeb80e722f372d69", func := "unicodetext/unicodetextlaw39.IdentSplits", spec := "identSplits", inPlace := ["internal/bytealg.abigen_runtime_cmpstring"], unfollowed := true, recurses := true, named := ["unicodetext/ordering.ranges"], plainKeys := false, apart := false, laid := [("unicodetext/ordering.ranges", laid_unicodetext_ordering_ranges)] }
def IdentSplitsSaid : Prop := identSplitsRow.holds Tryz.pinned (OpenSpec.ofChange identSplitsSpec)

/-- ITS FALSE NEIGHBOUR: 'it returns false'. Refute it at one input. -/
def identSplitsWrong : ChangeSpec := { name := "identSplits", fn := fun _ => fun
  | [d1, d2] => { results := [.lit (.bool false)], args := [d1, d2] }
  | _ => none }
def IdentSplitsWrongFalsely : Prop := identSplitsRow.holds Tryz.pinned (OpenSpec.ofChange identSplitsWrong)

/- THE SECOND FORM. 'bulk': how many values and letters a reading holds, each counted each time it is reached (what is shared counts as often as it is met; a slice's spare places count too). A statement '..UptoSaid' is the law's where the arguments, and the package variables that the reading takes, are together of bulk at most 1048576: NARROWER than '..Said'. Prove '..Said' where nothing that the law and all that it calls make is longer than what came in: it says more and counts as full. Else prove '..UptoSaid'. A law counts once. -/
mutual
def uptoBulk {H : Type} : DataW H → Nat
  | .lit (.string bytes) => bytes.length + 1
  | .lit _ => 1
  | .nil => 1
  | .ptr d => uptoBulk d + 1
  | .slice elems spare => uptoBulkAll elems + uptoBulkAll spare + 1
  | .agg parts => uptoBulkAll parts + 1
  | .iface _ d => uptoBulk d + 1
  | .map entries => uptoBulkEntries entries + 1
  | .held _ => 1
def uptoBulkAll {H : Type} : List (DataW H) → Nat
  | [] => 0
  | d :: r => uptoBulk d + uptoBulkAll r
def uptoBulkEntries {H : Type} : List (Lit × DataW H) → Nat
  | [] => 0
  | x :: r => uptoBulkEntry x + uptoBulkEntries r
def uptoBulkEntry {H : Type} : Lit × DataW H → Nat
  | (.string bytes, d) => bytes.length + uptoBulk d + 1
  | (_, d) => uptoBulk d + 1
 end
def uptoSmall : (H : Type) → List (DataW H) → Bool := fun _ ds => decide (uptoBulkAll ds ≤ 1048576)
def OpenSpec.upto (s : _root_.Go.ChangeSpec) : _root_.Go.OpenSpec := { _root_.Go.OpenSpec.ofChange s with cond := some uptoSmall }

/-- 'unicodetextlaw39.IdentRanges', WHERE WHAT IT READS IS OF BULK AT MOST 1048576: true; the input reads as it did. -/
def identRangesUptoRow : OpenClaim := { program := "ytjfcmiocmcdjlaagreatdoor", sum := "73f0617b017058a1ee06e0c5a5505fbbe66bda0a9356d274eeb80e722f372d69", func := "unicodetext/unicodetextlaw39.IdentRanges", spec := "identRanges", inPlace := ["internal/bytealg.abigen_runtime_cmpstring"], unfollowed := true, recurses := true, named := ["unicodetext/ordering.ranges"], plainKeys := false, apart := false, laid := [("unicodetext/ordering.ranges", laid_unicodetext_ordering_ranges)], narrowed := true }
def IdentRangesUptoSaid : Prop := identRangesUptoRow.holds Tryz.pinned (OpenSpec.upto identRangesSpec)

/-- 'unicodetextlaw39.IdentLongest', WHERE WHAT IT READS IS OF BULK AT MOST 1048576: true; the input reads as it did. -/
def identLongestUptoRow : OpenClaim := { program := "ytjfcmiocmcdjlaagreatdoor", sum := "73f0617b017058a1ee06e0c5a5505fbbe66bda0a9356d274eeb80e722f372d69", func := "unicodetext/unicodetextlaw39.IdentLongest", spec := "identLongest", inPlace := ["internal/bytealg.abigen_runtime_cmpstring"], unfollowed := true, recurses := true, named := ["unicodetext/ordering.ranges"], plainKeys := false, apart := false, laid := [("unicodetext/ordering.ranges", laid_unicodetext_ordering_ranges)], narrowed := true }
def IdentLongestUptoSaid : Prop := identLongestUptoRow.holds Tryz.pinned (OpenSpec.upto identLongestSpec)

/-- 'unicodetextlaw39.IdentWhole', WHERE WHAT IT READS IS OF BULK AT MOST 1048576: true; the input reads as it did. -/
def identWholeUptoRow : OpenClaim := { program := "ytjfcmiocmcdjlaagreatdoor", sum := "73f0617b017058a1ee06e0c5a5505fbbe66bda0a9356d274eeb80e722f372d69", func := "unicodetext/unicodetextlaw39.IdentWhole", spec := "identWhole", inPlace := ["internal/bytealg.abigen_runtime_cmpstring"], unfollowed := true, recurses := true, named := ["unicodetext/ordering.ranges"], plainKeys := false, apart := false, laid := [("unicodetext/ordering.ranges", laid_unicodetext_ordering_ranges)], narrowed := true }
def IdentWholeUptoSaid : Prop := identWholeUptoRow.holds Tryz.pinned (OpenSpec.upto identWholeSpec)

/-- 'unicodetextlaw39.IdentValid', WHERE WHAT IT READS IS OF BULK AT MOST 1048576: true; the input reads as it did. -/
def identValidUptoRow : OpenClaim := { program := "ytjfcmiocmcdjlaagreatdoor", sum := "73f0617b017058a1ee06e0c5a5505fbbe66bda0a9356d274eeb80e722f372d69", func := "unicodetext/unicodetextlaw39.IdentValid", spec := "identValid", inPlace := ["internal/bytealg.abigen_runtime_cmpstring"], unfollowed := true, recurses := true, named := ["unicodetext/ordering.ranges"], plainKeys := false, apart := false, laid := [("unicodetext/ordering.ranges", laid_unicodetext_ordering_ranges)], narrowed := true }
def IdentValidUptoSaid : Prop := identValidUptoRow.holds Tryz.pinned (OpenSpec.upto identValidSpec)

/-- 'unicodetextlaw39.IdentSplits', WHERE WHAT IT READS IS OF BULK AT MOST 1048576: true; the input reads as it did. -/
def identSplitsUptoRow : OpenClaim := { program := "ytjfcmiocmcdjlaagreatdoor", sum := "73f0617b017058a1ee06e0c5a5505fbbe66bda0a9356d274eeb80e722f372d69", func := "unicodetext/unicodetextlaw39.IdentSplits", spec := "identSplits", inPlace := ["internal/bytealg.abigen_runtime_cmpstring"], unfollowed := true, recurses := true, named := ["unicodetext/ordering.ranges"], plainKeys := false, apart := false, laid := [("unicodetext/ordering.ranges", laid_unicodetext_ordering_ranges)], narrowed := true }
def IdentSplitsUptoSaid : Prop := identSplitsUptoRow.holds Tryz.pinned (OpenSpec.upto identSplitsSpec)

end Rows
end Go.Proofs.YtjfcmiocmcdjlaaGreatDoor
