/-
  No cell of these rows narrows 'for every input' (looked for: loops, veiled, ifaces, maps, wideKeys, modest, calm, conditions, laid).
  DERIVED. THE GIVEN ROWS OF THIS SEAT. 10 by the template 'for every input the law returns true; each argument reads behind the call as it read before'; 0 by the template 'total and deterministic' (their statements: YtnodnpenlplleaaTotals.lean).
  GIVEN WITH THE SEED: the statements are not yours to turn. If you find one false, say at which input.
  Laid BY PROGRAM, IN A SANDBOX (cutbox-rows.mjs): the forced cells as the released guide's own fill.sh prints them over the translation 6c409f41a98a3410… (all of the seat's roots in one cut). By AI agents, Wed Nov 11 2026. No macro, syntax, notation, axiom, sorry.
-/
import Derived.Test.YtnodnpenlplleaaChecked
import GoSem.Claim
import GoSem.ClaimJoined
import GoSem.ClaimMapViews
import Derived.JoinedTies
import Derived.KernelRfl
namespace Go.Proofs.Ytnodnpenlplleaa
/- THE CELL 'sum', in the pinned program and in every row, IS THE sha256 OF THE DUMP (.gsa) THAT YtnodnpenlplleaaProg.lean LOADS. Nothing in Lean hashes anything: it is a label: what it is worth is what the hold of that sum in a sandbox is worth. -/
noncomputable def Try.pinned : Pinned := { name := "ytnodnpenlplleaa", sum := "6c409f41a98a34100bca444b4c84c7fb1ad8caa646cbfcad984db789e09067af", checked := Try.checked }
namespace Rows
def none {H : Type} : Left H := { results := [], args := [] }

/-- 'reevelaw09.LedgerRefused': WHATEVER THE INPUT: true; the input reads as it did. -/
def ledgerRefusedSpec : ChangeSpec := { name := "ledgerRefused", fn := fun _ => fun
  | [d1, d2, d3, d4] => { results := [.lit (.bool true)], args := [d1, d2, d3, d4] }
  | _ => none }
def ledgerRefusedRow : OpenClaim := { program := "ytnodnpenlplleaa", sum := "6c409f41a98a34100bca444b4c84c7fb1ad8caa646cbfcad984db789e09067af", func := "reeve/reevelaw09.LedgerRefused", spec := "ledgerRefused", unfollowed := true, recurses := true, apart := false }
def LedgerRefusedSaid : Prop := ledgerRefusedRow.holds Try.pinned (OpenSpec.ofChange ledgerRefusedSpec)

/-- ITS FALSE NEIGHBOUR: 'it returns false'. Refute it at one input. -/
def ledgerRefusedWrong : ChangeSpec := { name := "ledgerRefused", fn := fun _ => fun
  | [d1, d2, d3, d4] => { results := [.lit (.bool false)], args := [d1, d2, d3, d4] }
  | _ => none }
def LedgerRefusedWrongFalsely : Prop := ledgerRefusedRow.holds Try.pinned (OpenSpec.ofChange ledgerRefusedWrong)

/-- 'reevelaw09.LedgerTime': WHATEVER THE INPUT: true; the input reads as it did. -/
def ledgerTimeSpec : ChangeSpec := { name := "ledgerTime", fn := fun _ => fun
  | [d1, d2, d3, d4] => { results := [.lit (.bool true)], args := [d1, d2, d3, d4] }
  | _ => none }
def ledgerTimeRow : OpenClaim := { program := "ytnodnpenlplleaa", sum := "6c409f41a98a34100bca444b4c84c7fb1ad8caa646cbfcad984db789e09067af", func := "reeve/reevelaw09.LedgerTime", spec := "ledgerTime", inPlace := ["maps.clone"], unfollowed := true, recurses := true, apart := false }
def LedgerTimeSaid : Prop := ledgerTimeRow.holds Try.pinned (OpenSpec.ofChange ledgerTimeSpec)

/-- ITS FALSE NEIGHBOUR: 'it returns false'. Refute it at one input. -/
def ledgerTimeWrong : ChangeSpec := { name := "ledgerTime", fn := fun _ => fun
  | [d1, d2, d3, d4] => { results := [.lit (.bool false)], args := [d1, d2, d3, d4] }
  | _ => none }
def LedgerTimeWrongFalsely : Prop := ledgerTimeRow.holds Try.pinned (OpenSpec.ofChange ledgerTimeWrong)

/-- 'reevelaw09.LedgerApart': WHATEVER THE INPUT: true; the input reads as it did. -/
def ledgerApartSpec : ChangeSpec := { name := "ledgerApart", fn := fun _ => fun
  | [d1, d2, d3] => { results := [.lit (.bool true)], args := [d1, d2, d3] }
  | _ => none }
def ledgerApartRow : OpenClaim := { program := "ytnodnpenlplleaa", sum := "6c409f41a98a34100bca444b4c84c7fb1ad8caa646cbfcad984db789e09067af", func := "reeve/reevelaw09.LedgerApart", spec := "ledgerApart", unfollowed := true, recurses := true, apart := false }
def LedgerApartSaid : Prop := ledgerApartRow.holds Try.pinned (OpenSpec.ofChange ledgerApartSpec)

/-- ITS FALSE NEIGHBOUR: 'it returns false'. Refute it at one input. -/
def ledgerApartWrong : ChangeSpec := { name := "ledgerApart", fn := fun _ => fun
  | [d1, d2, d3] => { results := [.lit (.bool false)], args := [d1, d2, d3] }
  | _ => none }
def LedgerApartWrongFalsely : Prop := ledgerApartRow.holds Try.pinned (OpenSpec.ofChange ledgerApartWrong)

/-- 'reevelaw10.LimiterFair': WHATEVER THE INPUT: true; the input reads as it did. -/
def limiterFairSpec : ChangeSpec := { name := "limiterFair", fn := fun _ => fun
  | [d1, d2, d3] => { results := [.lit (.bool true)], args := [d1, d2, d3] }
  | _ => none }
def limiterFairRow : OpenClaim := { program := "ytnodnpenlplleaa", sum := "6c409f41a98a34100bca444b4c84c7fb1ad8caa646cbfcad984db789e09067af", func := "reeve/reevelaw10.LimiterFair", spec := "limiterFair", unfollowed := true, recurses := true, apart := false }
def LimiterFairSaid : Prop := limiterFairRow.holds Try.pinned (OpenSpec.ofChange limiterFairSpec)

/-- ITS FALSE NEIGHBOUR: 'it returns false'. Refute it at one input. -/
def limiterFairWrong : ChangeSpec := { name := "limiterFair", fn := fun _ => fun
  | [d1, d2, d3] => { results := [.lit (.bool false)], args := [d1, d2, d3] }
  | _ => none }
def LimiterFairWrongFalsely : Prop := limiterFairRow.holds Try.pinned (OpenSpec.ofChange limiterFairWrong)

/-- 'reevelaw10.LimiterMore': WHATEVER THE INPUT: true; the input reads as it did. -/
def limiterMoreSpec : ChangeSpec := { name := "limiterMore", fn := fun _ => fun
  | [d1, d2, d3, d4, d5] => { results := [.lit (.bool true)], args := [d1, d2, d3, d4, d5] }
  | _ => none }
def limiterMoreRow : OpenClaim := { program := "ytnodnpenlplleaa", sum := "6c409f41a98a34100bca444b4c84c7fb1ad8caa646cbfcad984db789e09067af", func := "reeve/reevelaw10.LimiterMore", spec := "limiterMore", unfollowed := true, recurses := true, apart := false }
def LimiterMoreSaid : Prop := limiterMoreRow.holds Try.pinned (OpenSpec.ofChange limiterMoreSpec)

/-- ITS FALSE NEIGHBOUR: 'it returns false'. Refute it at one input. -/
def limiterMoreWrong : ChangeSpec := { name := "limiterMore", fn := fun _ => fun
  | [d1, d2, d3, d4, d5] => { results := [.lit (.bool false)], args := [d1, d2, d3, d4, d5] }
  | _ => none }
def LimiterMoreWrongFalsely : Prop := limiterMoreRow.holds Try.pinned (OpenSpec.ofChange limiterMoreWrong)

/-- 'reevelaw10.LimiterRoom': WHATEVER THE INPUT: true; the input reads as it did. -/
def limiterRoomSpec : ChangeSpec := { name := "limiterRoom", fn := fun _ => fun
  | [d1, d2] => { results := [.lit (.bool true)], args := [d1, d2] }
  | _ => none }
def limiterRoomRow : OpenClaim := { program := "ytnodnpenlplleaa", sum := "6c409f41a98a34100bca444b4c84c7fb1ad8caa646cbfcad984db789e09067af", func := "reeve/reevelaw10.LimiterRoom", spec := "limiterRoom", unfollowed := true, recurses := true, apart := false }
def LimiterRoomSaid : Prop := limiterRoomRow.holds Try.pinned (OpenSpec.ofChange limiterRoomSpec)

/-- ITS FALSE NEIGHBOUR: 'it returns false'. Refute it at one input. -/
def limiterRoomWrong : ChangeSpec := { name := "limiterRoom", fn := fun _ => fun
  | [d1, d2] => { results := [.lit (.bool false)], args := [d1, d2] }
  | _ => none }
def LimiterRoomWrongFalsely : Prop := limiterRoomRow.holds Try.pinned (OpenSpec.ofChange limiterRoomWrong)

/-- 'reevelaw10.LimiterAgain': WHATEVER THE INPUT: true; the input reads as it did. -/
def limiterAgainSpec : ChangeSpec := { name := "limiterAgain", fn := fun _ => fun
  | [d1, d2, d3] => { results := [.lit (.bool true)], args := [d1, d2, d3] }
  | _ => none }
def limiterAgainRow : OpenClaim := { program := "ytnodnpenlplleaa", sum := "6c409f41a98a34100bca444b4c84c7fb1ad8caa646cbfcad984db789e09067af", func := "reeve/reevelaw10.LimiterAgain", spec := "limiterAgain", inPlace := ["maps.clone"], unfollowed := true, recurses := true, apart := false }
def LimiterAgainSaid : Prop := limiterAgainRow.holds Try.pinned (OpenSpec.ofChange limiterAgainSpec)

/-- ITS FALSE NEIGHBOUR: 'it returns false'. Refute it at one input. -/
def limiterAgainWrong : ChangeSpec := { name := "limiterAgain", fn := fun _ => fun
  | [d1, d2, d3] => { results := [.lit (.bool false)], args := [d1, d2, d3] }
  | _ => none }
def LimiterAgainWrongFalsely : Prop := limiterAgainRow.holds Try.pinned (OpenSpec.ofChange limiterAgainWrong)

/-- 'reevelaw10.LimiterFollows': WHATEVER THE INPUT: true; the input reads as it did. -/
def limiterFollowsSpec : ChangeSpec := { name := "limiterFollows", fn := fun _ => fun
  | [d1, d2] => { results := [.lit (.bool true)], args := [d1, d2] }
  | _ => none }
def limiterFollowsRow : OpenClaim := { program := "ytnodnpenlplleaa", sum := "6c409f41a98a34100bca444b4c84c7fb1ad8caa646cbfcad984db789e09067af", func := "reeve/reevelaw10.LimiterFollows", spec := "limiterFollows", inPlace := ["maps.clone"], unfollowed := true, recurses := true, apart := false }
def LimiterFollowsSaid : Prop := limiterFollowsRow.holds Try.pinned (OpenSpec.ofChange limiterFollowsSpec)

/-- ITS FALSE NEIGHBOUR: 'it returns false'. Refute it at one input. -/
def limiterFollowsWrong : ChangeSpec := { name := "limiterFollows", fn := fun _ => fun
  | [d1, d2] => { results := [.lit (.bool false)], args := [d1, d2] }
  | _ => none }
def LimiterFollowsWrongFalsely : Prop := limiterFollowsRow.holds Try.pinned (OpenSpec.ofChange limiterFollowsWrong)

/-- 'reevelaw09.LedgerLoads': WHATEVER THE INPUT: true; the input reads as it did. -/
def ledgerLoadsSpec : ChangeSpec := { name := "ledgerLoads", fn := fun _ => fun
  | [d1, d2, d3, d4] => { results := [.lit (.bool true)], args := [d1, d2, d3, d4] }
  | _ => none }
def ledgerLoadsRow : OpenClaim := { program := "ytnodnpenlplleaa", sum := "6c409f41a98a34100bca444b4c84c7fb1ad8caa646cbfcad984db789e09067af", func := "reeve/reevelaw09.LedgerLoads", spec := "ledgerLoads", unfollowed := true, recurses := true, apart := false }
def LedgerLoadsSaid : Prop := ledgerLoadsRow.holds Try.pinned (OpenSpec.ofChange ledgerLoadsSpec)

/-- ITS FALSE NEIGHBOUR: 'it returns false'. Refute it at one input. -/
def ledgerLoadsWrong : ChangeSpec := { name := "ledgerLoads", fn := fun _ => fun
  | [d1, d2, d3, d4] => { results := [.lit (.bool false)], args := [d1, d2, d3, d4] }
  | _ => none }
def LedgerLoadsWrongFalsely : Prop := ledgerLoadsRow.holds Try.pinned (OpenSpec.ofChange ledgerLoadsWrong)

/-- 'reevelaw09.LedgerBack': WHATEVER THE INPUT: true; the input reads as it did. -/
def ledgerBackSpec : ChangeSpec := { name := "ledgerBack", fn := fun _ => fun
  | [d1, d2, d3, d4, d5] => { results := [.lit (.bool true)], args := [d1, d2, d3, d4, d5] }
  | _ => none }
def ledgerBackRow : OpenClaim := { program := "ytnodnpenlplleaa", sum := "6c409f41a98a34100bca444b4c84c7fb1ad8caa646cbfcad984db789e09067af", func := "reeve/reevelaw09.LedgerBack", spec := "ledgerBack", unfollowed := true, recurses := true, apart := false }
def LedgerBackSaid : Prop := ledgerBackRow.holds Try.pinned (OpenSpec.ofChange ledgerBackSpec)

/-- ITS FALSE NEIGHBOUR: 'it returns false'. Refute it at one input. -/
def ledgerBackWrong : ChangeSpec := { name := "ledgerBack", fn := fun _ => fun
  | [d1, d2, d3, d4, d5] => { results := [.lit (.bool false)], args := [d1, d2, d3, d4, d5] }
  | _ => none }
def LedgerBackWrongFalsely : Prop := ledgerBackRow.holds Try.pinned (OpenSpec.ofChange ledgerBackWrong)

/- THE SECOND FORM. 'bulk': how many values and letters a reading holds, each counted each time it is reached (what is shared counts as often as it is met; a slice's spare places count too). A statement '..UptoSaid' is the law's where the arguments, and the package variables that the reading takes, are together of bulk at most 1048576: NARROWER than '..Said'. Prove '..Said' where nothing that the law and all that it calls make is longer than what came in: it says more and counts as full. Else prove '..UptoSaid'. A law counts once. -/
mutual
def uptoBulk {H : Type} : DataW H → Nat
  | .lit (.string bytes) => bytes.length + 1
  | .lit _ => 1
  | .nil => 1
  | .ptr d => uptoBulk d + 1
  | .slice elems spare => uptoBulkAll elems + uptoBulkAll spare + 1
  | .agg parts => uptoBulkAll parts + 1
  | .iface _ d => uptoBulk d + 1
  | .map entries => uptoBulkEntries entries + 1
  | .held _ => 1
def uptoBulkAll {H : Type} : List (DataW H) → Nat
  | [] => 0
  | d :: r => uptoBulk d + uptoBulkAll r
def uptoBulkEntries {H : Type} : List (Lit × DataW H) → Nat
  | [] => 0
  | x :: r => uptoBulkEntry x + uptoBulkEntries r
def uptoBulkEntry {H : Type} : Lit × DataW H → Nat
  | (.string bytes, d) => bytes.length + uptoBulk d + 1
  | (_, d) => uptoBulk d + 1
 end
def uptoSmall : (H : Type) → List (DataW H) → Bool := fun _ ds => decide (uptoBulkAll ds ≤ 1048576)
def OpenSpec.upto (s : _root_.Go.ChangeSpec) : _root_.Go.OpenSpec := { _root_.Go.OpenSpec.ofChange s with cond := some uptoSmall }

/-- 'reevelaw09.LedgerRefused', WHERE WHAT IT READS IS OF BULK AT MOST 1048576: true; the input reads as it did. -/
def ledgerRefusedUptoRow : OpenClaim := { program := "ytnodnpenlplleaa", sum := "6c409f41a98a34100bca444b4c84c7fb1ad8caa646cbfcad984db789e09067af", func := "reeve/reevelaw09.LedgerRefused", spec := "ledgerRefused", unfollowed := true, recurses := true, apart := false, narrowed := true }
def LedgerRefusedUptoSaid : Prop := ledgerRefusedUptoRow.holds Try.pinned (OpenSpec.upto ledgerRefusedSpec)

/-- 'reevelaw09.LedgerTime', WHERE WHAT IT READS IS OF BULK AT MOST 1048576: true; the input reads as it did. -/
def ledgerTimeUptoRow : OpenClaim := { program := "ytnodnpenlplleaa", sum := "6c409f41a98a34100bca444b4c84c7fb1ad8caa646cbfcad984db789e09067af", func := "reeve/reevelaw09.LedgerTime", spec := "ledgerTime", inPlace := ["maps.clone"], unfollowed := true, recurses := true, apart := false, narrowed := true }
def LedgerTimeUptoSaid : Prop := ledgerTimeUptoRow.holds Try.pinned (OpenSpec.upto ledgerTimeSpec)

/-- 'reevelaw09.LedgerApart', WHERE WHAT IT READS IS OF BULK AT MOST 1048576: true; the input reads as it did. -/
def ledgerApartUptoRow : OpenClaim := { program := "ytnodnpenlplleaa", sum := "6c409f41a98a34100bca444b4c84c7fb1ad8caa646cbfcad984db789e09067af", func := "reeve/reevelaw09.LedgerApart", spec := "ledgerApart", unfollowed := true, recurses := true, apart := false, narrowed := true }
def LedgerApartUptoSaid : Prop := ledgerApartUptoRow.holds Try.pinned (OpenSpec.upto ledgerApartSpec)

/-- 'reevelaw10.LimiterFair', WHERE WHAT IT READS IS OF BULK AT MOST 1048576: true; the input reads as it did. -/
def limiterFairUptoRow : OpenClaim := { program := "ytnodnpenlplleaa", sum := "6c409f41a98a34100bca444b4c84c7fb1ad8caa646cbfcad984db789e09067af", func := "reeve/reevelaw10.LimiterFair", spec := "limiterFair", unfollowed := true, recurses := true, apart := false, narrowed := true }
def LimiterFairUptoSaid : Prop := limiterFairUptoRow.holds Try.pinned (OpenSpec.upto limiterFairSpec)

/-- 'reevelaw10.LimiterMore', WHERE WHAT IT READS IS OF BULK AT MOST 1048576: true; the input reads as it did. -/
def limiterMoreUptoRow : OpenClaim := { program := "ytnodnpenlplleaa", sum := "6c409f41a98a34100bca444b4c84c7fb1ad8caa646cbfcad984db789e09067af", func := "reeve/reevelaw10.LimiterMore", spec := "limiterMore", unfollowed := true, recurses := true, apart := false, narrowed := true }
def LimiterMoreUptoSaid : Prop := limiterMoreUptoRow.holds Try.pinned (OpenSpec.upto limiterMoreSpec)

/-- 'reevelaw10.LimiterRoom', WHERE WHAT IT READS IS OF BULK AT MOST 1048576: true; the input reads as it did. -/
def limiterRoomUptoRow : OpenClaim := { program := "ytnodnpenlplleaa", sum := "6c409f41a98a34100bca444b4c84c7fb1ad8caa646cbfcad984db789e09067af", func := "reeve/reevelaw10.LimiterRoom", spec := "limiterRoom", unfollowed := true, recurses := true, apart := false, narrowed := true }
def LimiterRoomUptoSaid : Prop := limiterRoomUptoRow.holds Try.pinned (OpenSpec.upto limiterRoomSpec)

/-- 'reevelaw10.LimiterAgain', WHERE WHAT IT READS IS OF BULK AT MOST 1048576: true; the input reads as it did. -/
def limiterAgainUptoRow : OpenClaim := { program := "ytnodnpenlplleaa", sum := "6c409f41a98a34100bca444b4c84c7fb1ad8caa646cbfcad984db789e09067af", func := "reeve/reevelaw10.LimiterAgain", spec := "limiterAgain", inPlace := ["maps.clone"], unfollowed := true, recurses := true, apart := false, narrowed := true }
def LimiterAgainUptoSaid : Prop := limiterAgainUptoRow.holds Try.pinned (OpenSpec.upto limiterAgainSpec)

/-- 'reevelaw10.LimiterFollows', WHERE WHAT IT READS IS OF BULK AT MOST 1048576: true; the input reads as it did. -/
def limiterFollowsUptoRow : OpenClaim := { program := "ytnodnpenlplleaa", sum := "6c409f41a98a34100bca444b4c84c7fb1ad8caa646cbfcad984db789e09067af", func := "reeve/reevelaw10.LimiterFollows", spec := "limiterFollows", inPlace := ["maps.clone"], unfollowed := true, recurses := true, apart := false, narrowed := true }
def LimiterFollowsUptoSaid : Prop := limiterFollowsUptoRow.holds Try.pinned (OpenSpec.upto limiterFollowsSpec)

/-- 'reevelaw09.LedgerLoads', WHERE WHAT IT READS IS OF BULK AT MOST 1048576: true; the input reads as it did. -/
def ledgerLoadsUptoRow : OpenClaim := { program := "ytnodnpenlplleaa", sum := "6c409f41a98a34100bca444b4c84c7fb1ad8caa646cbfcad984db789e09067af", func := "reeve/reevelaw09.LedgerLoads", spec := "ledgerLoads", unfollowed := true, recurses := true, apart := false, narrowed := true }
def LedgerLoadsUptoSaid : Prop := ledgerLoadsUptoRow.holds Try.pinned (OpenSpec.upto ledgerLoadsSpec)

/-- 'reevelaw09.LedgerBack', WHERE WHAT IT READS IS OF BULK AT MOST 1048576: true; the input reads as it did. -/
def ledgerBackUptoRow : OpenClaim := { program := "ytnodnpenlplleaa", sum := "6c409f41a98a34100bca444b4c84c7fb1ad8caa646cbfcad984db789e09067af", func := "reeve/reevelaw09.LedgerBack", spec := "ledgerBack", unfollowed := true, recurses := true, apart := false, narrowed := true }
def LedgerBackUptoSaid : Prop := ledgerBackUptoRow.holds Try.pinned (OpenSpec.upto ledgerBackSpec)

end Rows
end Go.Proofs.Ytnodnpenlplleaa
