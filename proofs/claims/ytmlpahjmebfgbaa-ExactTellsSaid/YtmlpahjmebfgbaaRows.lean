/-
  No cell of these rows narrows 'for every input' (looked for: loops, veiled, ifaces, maps, wideKeys, modest, calm, conditions, laid).
  DERIVED. THE GIVEN ROWS OF THIS SEAT. 7 by the template 'for every input the law returns true; each argument reads behind the call as it read before'; 0 by the template 'total and deterministic' (their statements: YtmlpahjmebfgbaaTotals.lean).
  GIVEN WITH THE SEED: the statements are not yours to turn. If you find one false, say at which input.
  Laid BY PROGRAM, IN A SANDBOX (cutbox-rows.mjs): the forced cells as the released guide's own fill.sh prints them over the translation c424b4b3ac5dabb1… (all of the seat's roots in one cut). By AI agents, Wed Nov 11 2026. No macro, syntax, notation, axiom, sorry.
-/
import Derived.Test.YtmlpahjmebfgbaaChecked
import GoSem.Claim
import GoSem.ClaimJoined
import GoSem.ClaimMapViews
import Derived.JoinedTies
import Derived.KernelRfl
namespace Go.Proofs.Ytmlpahjmebfgbaa
/- THE CELL 'sum', in the pinned program and in every row, IS THE sha256 OF THE DUMP (.gsa) THAT YtmlpahjmebfgbaaProg.lean LOADS. Nothing in Lean hashes anything: it is a label: what it is worth is what the hold of that sum in a sandbox is worth. -/
noncomputable def Try.pinned : Pinned := { name := "ytmlpahjmebfgbaa", sum := "c424b4b3ac5dabb1d32a096a264d8e7362b40f196c58b1562ce4250e082d3422", checked := Try.checked }
namespace Rows
def none {H : Type} : Left H := { results := [], args := [] }

/-- 'reevelaw16.ExactOwes': WHATEVER THE INPUT: true; the input reads as it did. -/
def exactOwesSpec : ChangeSpec := { name := "exactOwes", fn := fun _ => fun
  | [d1, d2, d3, d4, d5] => { results := [.lit (.bool true)], args := [d1, d2, d3, d4, d5] }
  | _ => none }
def exactOwesRow : OpenClaim := { program := "ytmlpahjmebfgbaa", sum := "c424b4b3ac5dabb1d32a096a264d8e7362b40f196c58b1562ce4250e082d3422", func := "reeve/reevelaw16.ExactOwes", spec := "exactOwes", unfollowed := true, recurses := true, apart := false }
def ExactOwesSaid : Prop := exactOwesRow.holds Try.pinned (OpenSpec.ofChange exactOwesSpec)

/-- ITS FALSE NEIGHBOUR: 'it returns false'. Refute it at one input. -/
def exactOwesWrong : ChangeSpec := { name := "exactOwes", fn := fun _ => fun
  | [d1, d2, d3, d4, d5] => { results := [.lit (.bool false)], args := [d1, d2, d3, d4, d5] }
  | _ => none }
def ExactOwesWrongFalsely : Prop := exactOwesRow.holds Try.pinned (OpenSpec.ofChange exactOwesWrong)

/-- 'reevelaw16.ExactTells': WHATEVER THE INPUT: true; the input reads as it did. -/
def exactTellsSpec : ChangeSpec := { name := "exactTells", fn := fun _ => fun
  | [d1, d2] => { results := [.lit (.bool true)], args := [d1, d2] }
  | _ => none }
def exactTellsRow : OpenClaim := { program := "ytmlpahjmebfgbaa", sum := "c424b4b3ac5dabb1d32a096a264d8e7362b40f196c58b1562ce4250e082d3422", func := "reeve/reevelaw16.ExactTells", spec := "exactTells", unfollowed := true, recurses := true, apart := false }
def ExactTellsSaid : Prop := exactTellsRow.holds Try.pinned (OpenSpec.ofChange exactTellsSpec)

/-- ITS FALSE NEIGHBOUR: 'it returns false'. Refute it at one input. -/
def exactTellsWrong : ChangeSpec := { name := "exactTells", fn := fun _ => fun
  | [d1, d2] => { results := [.lit (.bool false)], args := [d1, d2] }
  | _ => none }
def ExactTellsWrongFalsely : Prop := exactTellsRow.holds Try.pinned (OpenSpec.ofChange exactTellsWrong)

/-- 'reevelaw16.ExactBounds': WHATEVER THE INPUT: true; the input reads as it did. -/
def exactBoundsSpec : ChangeSpec := { name := "exactBounds", fn := fun _ => fun
  | [d1, d2] => { results := [.lit (.bool true)], args := [d1, d2] }
  | _ => none }
def exactBoundsRow : OpenClaim := { program := "ytmlpahjmebfgbaa", sum := "c424b4b3ac5dabb1d32a096a264d8e7362b40f196c58b1562ce4250e082d3422", func := "reeve/reevelaw16.ExactBounds", spec := "exactBounds", unfollowed := true, recurses := true, apart := false }
def ExactBoundsSaid : Prop := exactBoundsRow.holds Try.pinned (OpenSpec.ofChange exactBoundsSpec)

/-- ITS FALSE NEIGHBOUR: 'it returns false'. Refute it at one input. -/
def exactBoundsWrong : ChangeSpec := { name := "exactBounds", fn := fun _ => fun
  | [d1, d2] => { results := [.lit (.bool false)], args := [d1, d2] }
  | _ => none }
def ExactBoundsWrongFalsely : Prop := exactBoundsRow.holds Try.pinned (OpenSpec.ofChange exactBoundsWrong)

/-- 'reevelaw16.ExactApart': WHATEVER THE INPUT: true; the input reads as it did. -/
def exactApartSpec : ChangeSpec := { name := "exactApart", fn := fun _ => fun
  | [d1, d2, d3, d4] => { results := [.lit (.bool true)], args := [d1, d2, d3, d4] }
  | _ => none }
def exactApartRow : OpenClaim := { program := "ytmlpahjmebfgbaa", sum := "c424b4b3ac5dabb1d32a096a264d8e7362b40f196c58b1562ce4250e082d3422", func := "reeve/reevelaw16.ExactApart", spec := "exactApart", unfollowed := true, recurses := true, apart := false }
def ExactApartSaid : Prop := exactApartRow.holds Try.pinned (OpenSpec.ofChange exactApartSpec)

/-- ITS FALSE NEIGHBOUR: 'it returns false'. Refute it at one input. -/
def exactApartWrong : ChangeSpec := { name := "exactApart", fn := fun _ => fun
  | [d1, d2, d3, d4] => { results := [.lit (.bool false)], args := [d1, d2, d3, d4] }
  | _ => none }
def ExactApartWrongFalsely : Prop := exactApartRow.holds Try.pinned (OpenSpec.ofChange exactApartWrong)

/-- 'reevelaw16.ExactFalls': WHATEVER THE INPUT: true; the input reads as it did. -/
def exactFallsSpec : ChangeSpec := { name := "exactFalls", fn := fun _ => fun
  | [d1, d2, d3, d4, d5] => { results := [.lit (.bool true)], args := [d1, d2, d3, d4, d5] }
  | _ => none }
def exactFallsRow : OpenClaim := { program := "ytmlpahjmebfgbaa", sum := "c424b4b3ac5dabb1d32a096a264d8e7362b40f196c58b1562ce4250e082d3422", func := "reeve/reevelaw16.ExactFalls", spec := "exactFalls", unfollowed := true, recurses := true, apart := false }
def ExactFallsSaid : Prop := exactFallsRow.holds Try.pinned (OpenSpec.ofChange exactFallsSpec)

/-- ITS FALSE NEIGHBOUR: 'it returns false'. Refute it at one input. -/
def exactFallsWrong : ChangeSpec := { name := "exactFalls", fn := fun _ => fun
  | [d1, d2, d3, d4, d5] => { results := [.lit (.bool false)], args := [d1, d2, d3, d4, d5] }
  | _ => none }
def ExactFallsWrongFalsely : Prop := exactFallsRow.holds Try.pinned (OpenSpec.ofChange exactFallsWrong)

/-- 'reevelaw16.ExactStarts': WHATEVER THE INPUT: true; the input reads as it did. -/
def exactStartsSpec : ChangeSpec := { name := "exactStarts", fn := fun _ => fun
  | [d1, d2, d3] => { results := [.lit (.bool true)], args := [d1, d2, d3] }
  | _ => none }
def exactStartsRow : OpenClaim := { program := "ytmlpahjmebfgbaa", sum := "c424b4b3ac5dabb1d32a096a264d8e7362b40f196c58b1562ce4250e082d3422", func := "reeve/reevelaw16.ExactStarts", spec := "exactStarts", unfollowed := true, recurses := true, apart := false }
def ExactStartsSaid : Prop := exactStartsRow.holds Try.pinned (OpenSpec.ofChange exactStartsSpec)

/-- ITS FALSE NEIGHBOUR: 'it returns false'. Refute it at one input. -/
def exactStartsWrong : ChangeSpec := { name := "exactStarts", fn := fun _ => fun
  | [d1, d2, d3] => { results := [.lit (.bool false)], args := [d1, d2, d3] }
  | _ => none }
def ExactStartsWrongFalsely : Prop := exactStartsRow.holds Try.pinned (OpenSpec.ofChange exactStartsWrong)

/-- 'reevelaw16.ExactLedger': WHATEVER THE INPUT: true; the input reads as it did. -/
def exactLedgerSpec : ChangeSpec := { name := "exactLedger", fn := fun _ => fun
  | [d1, d2, d3, d4] => { results := [.lit (.bool true)], args := [d1, d2, d3, d4] }
  | _ => none }
def exactLedgerRow : OpenClaim := { program := "ytmlpahjmebfgbaa", sum := "c424b4b3ac5dabb1d32a096a264d8e7362b40f196c58b1562ce4250e082d3422", func := "reeve/reevelaw16.ExactLedger", spec := "exactLedger", unfollowed := true, recurses := true, apart := false }
def ExactLedgerSaid : Prop := exactLedgerRow.holds Try.pinned (OpenSpec.ofChange exactLedgerSpec)

/-- ITS FALSE NEIGHBOUR: 'it returns false'. Refute it at one input. -/
def exactLedgerWrong : ChangeSpec := { name := "exactLedger", fn := fun _ => fun
  | [d1, d2, d3, d4] => { results := [.lit (.bool false)], args := [d1, d2, d3, d4] }
  | _ => none }
def ExactLedgerWrongFalsely : Prop := exactLedgerRow.holds Try.pinned (OpenSpec.ofChange exactLedgerWrong)

/- THE SECOND FORM. 'bulk': how many values and letters a reading holds, each counted each time it is reached (what is shared counts as often as it is met; a slice's spare places count too). A statement '..UptoSaid' is the law's where the arguments, and the package variables that the reading takes, are together of bulk at most 1048576: NARROWER than '..Said'. Prove '..Said' where nothing that the law and all that it calls make is longer than what came in: it says more and counts as full. Else prove '..UptoSaid'. A law counts once. -/
mutual
def uptoBulk {H : Type} : DataW H → Nat
  | .lit (.string bytes) => bytes.length + 1
  | .lit _ => 1
  | .nil => 1
  | .ptr d => uptoBulk d + 1
  | .slice elems spare => uptoBulkAll elems + uptoBulkAll spare + 1
  | .agg parts => uptoBulkAll parts + 1
  | .iface _ d => uptoBulk d + 1
  | .map entries => uptoBulkEntries entries + 1
  | .held _ => 1
def uptoBulkAll {H : Type} : List (DataW H) → Nat
  | [] => 0
  | d :: r => uptoBulk d + uptoBulkAll r
def uptoBulkEntries {H : Type} : List (Lit × DataW H) → Nat
  | [] => 0
  | x :: r => uptoBulkEntry x + uptoBulkEntries r
def uptoBulkEntry {H : Type} : Lit × DataW H → Nat
  | (.string bytes, d) => bytes.length + uptoBulk d + 1
  | (_, d) => uptoBulk d + 1
 end
def uptoSmall : (H : Type) → List (DataW H) → Bool := fun _ ds => decide (uptoBulkAll ds ≤ 1048576)
def OpenSpec.upto (s : _root_.Go.ChangeSpec) : _root_.Go.OpenSpec := { _root_.Go.OpenSpec.ofChange s with cond := some uptoSmall }

/-- 'reevelaw16.ExactOwes', WHERE WHAT IT READS IS OF BULK AT MOST 1048576: true; the input reads as it did. -/
def exactOwesUptoRow : OpenClaim := { program := "ytmlpahjmebfgbaa", sum := "c424b4b3ac5dabb1d32a096a264d8e7362b40f196c58b1562ce4250e082d3422", func := "reeve/reevelaw16.ExactOwes", spec := "exactOwes", unfollowed := true, recurses := true, apart := false, narrowed := true }
def ExactOwesUptoSaid : Prop := exactOwesUptoRow.holds Try.pinned (OpenSpec.upto exactOwesSpec)

/-- 'reevelaw16.ExactTells', WHERE WHAT IT READS IS OF BULK AT MOST 1048576: true; the input reads as it did. -/
def exactTellsUptoRow : OpenClaim := { program := "ytmlpahjmebfgbaa", sum := "c424b4b3ac5dabb1d32a096a264d8e7362b40f196c58b1562ce4250e082d3422", func := "reeve/reevelaw16.ExactTells", spec := "exactTells", unfollowed := true, recurses := true, apart := false, narrowed := true }
def ExactTellsUptoSaid : Prop := exactTellsUptoRow.holds Try.pinned (OpenSpec.upto exactTellsSpec)

/-- 'reevelaw16.ExactBounds', WHERE WHAT IT READS IS OF BULK AT MOST 1048576: true; the input reads as it did. -/
def exactBoundsUptoRow : OpenClaim := { program := "ytmlpahjmebfgbaa", sum := "c424b4b3ac5dabb1d32a096a264d8e7362b40f196c58b1562ce4250e082d3422", func := "reeve/reevelaw16.ExactBounds", spec := "exactBounds", unfollowed := true, recurses := true, apart := false, narrowed := true }
def ExactBoundsUptoSaid : Prop := exactBoundsUptoRow.holds Try.pinned (OpenSpec.upto exactBoundsSpec)

/-- 'reevelaw16.ExactApart', WHERE WHAT IT READS IS OF BULK AT MOST 1048576: true; the input reads as it did. -/
def exactApartUptoRow : OpenClaim := { program := "ytmlpahjmebfgbaa", sum := "c424b4b3ac5dabb1d32a096a264d8e7362b40f196c58b1562ce4250e082d3422", func := "reeve/reevelaw16.ExactApart", spec := "exactApart", unfollowed := true, recurses := true, apart := false, narrowed := true }
def ExactApartUptoSaid : Prop := exactApartUptoRow.holds Try.pinned (OpenSpec.upto exactApartSpec)

/-- 'reevelaw16.ExactFalls', WHERE WHAT IT READS IS OF BULK AT MOST 1048576: true; the input reads as it did. -/
def exactFallsUptoRow : OpenClaim := { program := "ytmlpahjmebfgbaa", sum := "c424b4b3ac5dabb1d32a096a264d8e7362b40f196c58b1562ce4250e082d3422", func := "reeve/reevelaw16.ExactFalls", spec := "exactFalls", unfollowed := true, recurses := true, apart := false, narrowed := true }
def ExactFallsUptoSaid : Prop := exactFallsUptoRow.holds Try.pinned (OpenSpec.upto exactFallsSpec)

/-- 'reevelaw16.ExactStarts', WHERE WHAT IT READS IS OF BULK AT MOST 1048576: true; the input reads as it did. -/
def exactStartsUptoRow : OpenClaim := { program := "ytmlpahjmebfgbaa", sum := "c424b4b3ac5dabb1d32a096a264d8e7362b40f196c58b1562ce4250e082d3422", func := "reeve/reevelaw16.ExactStarts", spec := "exactStarts", unfollowed := true, recurses := true, apart := false, narrowed := true }
def ExactStartsUptoSaid : Prop := exactStartsUptoRow.holds Try.pinned (OpenSpec.upto exactStartsSpec)

/-- 'reevelaw16.ExactLedger', WHERE WHAT IT READS IS OF BULK AT MOST 1048576: true; the input reads as it did. -/
def exactLedgerUptoRow : OpenClaim := { program := "ytmlpahjmebfgbaa", sum := "c424b4b3ac5dabb1d32a096a264d8e7362b40f196c58b1562ce4250e082d3422", func := "reeve/reevelaw16.ExactLedger", spec := "exactLedger", unfollowed := true, recurses := true, apart := false, narrowed := true }
def ExactLedgerUptoSaid : Prop := exactLedgerUptoRow.holds Try.pinned (OpenSpec.upto exactLedgerSpec)

end Rows
end Go.Proofs.Ytmlpahjmebfgbaa
