/-
  No cell of these rows narrows 'for every input' (looked for: loops, veiled, ifaces, maps, wideKeys, modest, calm, conditions, laid).
  DERIVED. THE GIVEN ROWS OF THIS SEAT. 9 by the template 'for every input the law returns true; each argument reads behind the call as it read before'; 0 by the template 'total and deterministic' (their statements: YthojpcfaaiefhaaTotals.lean).
  GIVEN WITH THE SEED: the statements are not yours to turn. If you find one false, say at which input.
  Laid BY PROGRAM, IN A SANDBOX (cutbox-rows.mjs): the forced cells as the released guide's own fill.sh prints them over the translation 3776a87964f806eb… (all of the seat's roots in one cut). By AI agents, Wed Nov 11 2026. No macro, syntax, notation, axiom, sorry.
-/
import Derived.Test.YthojpcfaaiefhaaChecked
import GoSem.Claim
import GoSem.ClaimJoined
import GoSem.ClaimMapViews
import Derived.JoinedTies
import Derived.KernelRfl
namespace Go.Proofs.Ythojpcfaaiefhaa
/- THE CELL 'sum', in the pinned program and in every row, IS THE sha256 OF THE DUMP (.gsa) THAT YthojpcfaaiefhaaProg.lean LOADS. Nothing in Lean hashes anything: it is a label: what it is worth is what the hold of that sum in a sandbox is worth. -/
noncomputable def Try.pinned : Pinned := { name := "ythojpcfaaiefhaa", sum := "3776a87964f806eb1b82a053ed4de59d817c4b51c577f53ae598ab244bba87ce", checked := Try.checked }
namespace Rows
def none {H : Type} : Left H := { results := [], args := [] }

/-- 'tenementlaw05.LanePlays': WHATEVER THE INPUT: true; the input reads as it did. -/
def lanePlaysSpec : ChangeSpec := { name := "lanePlays", fn := fun _ => fun
  | [d1, d2, d3] => { results := [.lit (.bool true)], args := [d1, d2, d3] }
  | _ => none }
def lanePlaysRow : OpenClaim := { program := "ythojpcfaaiefhaa", sum := "3776a87964f806eb1b82a053ed4de59d817c4b51c577f53ae598ab244bba87ce", func := "tenement/tenementlaw05.LanePlays", spec := "lanePlays", apart := false }
def LanePlaysSaid : Prop := lanePlaysRow.holds Try.pinned (OpenSpec.ofChange lanePlaysSpec)

/-- ITS FALSE NEIGHBOUR: 'it returns false'. Refute it at one input. -/
def lanePlaysWrong : ChangeSpec := { name := "lanePlays", fn := fun _ => fun
  | [d1, d2, d3] => { results := [.lit (.bool false)], args := [d1, d2, d3] }
  | _ => none }
def LanePlaysWrongFalsely : Prop := lanePlaysRow.holds Try.pinned (OpenSpec.ofChange lanePlaysWrong)

/-- 'tenementlaw05.LaneOrder': WHATEVER THE INPUT: true; the input reads as it did. -/
def laneOrderSpec : ChangeSpec := { name := "laneOrder", fn := fun _ => fun
  | [d1, d2] => { results := [.lit (.bool true)], args := [d1, d2] }
  | _ => none }
def laneOrderRow : OpenClaim := { program := "ythojpcfaaiefhaa", sum := "3776a87964f806eb1b82a053ed4de59d817c4b51c577f53ae598ab244bba87ce", func := "tenement/tenementlaw05.LaneOrder", spec := "laneOrder", apart := false }
def LaneOrderSaid : Prop := laneOrderRow.holds Try.pinned (OpenSpec.ofChange laneOrderSpec)

/-- ITS FALSE NEIGHBOUR: 'it returns false'. Refute it at one input. -/
def laneOrderWrong : ChangeSpec := { name := "laneOrder", fn := fun _ => fun
  | [d1, d2] => { results := [.lit (.bool false)], args := [d1, d2] }
  | _ => none }
def LaneOrderWrongFalsely : Prop := laneOrderRow.holds Try.pinned (OpenSpec.ofChange laneOrderWrong)

/-- 'tenementlaw05.LaneKinds': WHATEVER THE INPUT: true; the input reads as it did. -/
def laneKindsSpec : ChangeSpec := { name := "laneKinds", fn := fun _ => fun
  | [d1, d2] => { results := [.lit (.bool true)], args := [d1, d2] }
  | _ => none }
def laneKindsRow : OpenClaim := { program := "ythojpcfaaiefhaa", sum := "3776a87964f806eb1b82a053ed4de59d817c4b51c577f53ae598ab244bba87ce", func := "tenement/tenementlaw05.LaneKinds", spec := "laneKinds", apart := false }
def LaneKindsSaid : Prop := laneKindsRow.holds Try.pinned (OpenSpec.ofChange laneKindsSpec)

/-- ITS FALSE NEIGHBOUR: 'it returns false'. Refute it at one input. -/
def laneKindsWrong : ChangeSpec := { name := "laneKinds", fn := fun _ => fun
  | [d1, d2] => { results := [.lit (.bool false)], args := [d1, d2] }
  | _ => none }
def LaneKindsWrongFalsely : Prop := laneKindsRow.holds Try.pinned (OpenSpec.ofChange laneKindsWrong)

/-- 'tenementlaw05.LaneTurns': WHATEVER THE INPUT: true; the input reads as it did. -/
def laneTurnsSpec : ChangeSpec := { name := "laneTurns", fn := fun _ => fun
  | [d1, d2] => { results := [.lit (.bool true)], args := [d1, d2] }
  | _ => none }
def laneTurnsRow : OpenClaim := { program := "ythojpcfaaiefhaa", sum := "3776a87964f806eb1b82a053ed4de59d817c4b51c577f53ae598ab244bba87ce", func := "tenement/tenementlaw05.LaneTurns", spec := "laneTurns", apart := false }
def LaneTurnsSaid : Prop := laneTurnsRow.holds Try.pinned (OpenSpec.ofChange laneTurnsSpec)

/-- ITS FALSE NEIGHBOUR: 'it returns false'. Refute it at one input. -/
def laneTurnsWrong : ChangeSpec := { name := "laneTurns", fn := fun _ => fun
  | [d1, d2] => { results := [.lit (.bool false)], args := [d1, d2] }
  | _ => none }
def LaneTurnsWrongFalsely : Prop := laneTurnsRow.holds Try.pinned (OpenSpec.ofChange laneTurnsWrong)

/-- 'tenementlaw17.NetPlays': WHATEVER THE INPUT: true; the input reads as it did. -/
def netPlaysSpec : ChangeSpec := { name := "netPlays", fn := fun _ => fun
  | [d1, d2, d3, d4] => { results := [.lit (.bool true)], args := [d1, d2, d3, d4] }
  | _ => none }
def netPlaysRow : OpenClaim := { program := "ythojpcfaaiefhaa", sum := "3776a87964f806eb1b82a053ed4de59d817c4b51c577f53ae598ab244bba87ce", func := "tenement/tenementlaw17.NetPlays", spec := "netPlays", apart := false }
def NetPlaysSaid : Prop := netPlaysRow.holds Try.pinned (OpenSpec.ofChange netPlaysSpec)

/-- ITS FALSE NEIGHBOUR: 'it returns false'. Refute it at one input. -/
def netPlaysWrong : ChangeSpec := { name := "netPlays", fn := fun _ => fun
  | [d1, d2, d3, d4] => { results := [.lit (.bool false)], args := [d1, d2, d3, d4] }
  | _ => none }
def NetPlaysWrongFalsely : Prop := netPlaysRow.holds Try.pinned (OpenSpec.ofChange netPlaysWrong)

/-- 'tenementlaw17.NetLanes': WHATEVER THE INPUT: true; the input reads as it did. -/
def netLanesSpec : ChangeSpec := { name := "netLanes", fn := fun _ => fun
  | [d] => { results := [.lit (.bool true)], args := [d] }
  | _ => none }
def netLanesRow : OpenClaim := { program := "ythojpcfaaiefhaa", sum := "3776a87964f806eb1b82a053ed4de59d817c4b51c577f53ae598ab244bba87ce", func := "tenement/tenementlaw17.NetLanes", spec := "netLanes", apart := false }
def NetLanesSaid : Prop := netLanesRow.holds Try.pinned (OpenSpec.ofChange netLanesSpec)

/-- ITS FALSE NEIGHBOUR: 'it returns false'. Refute it at one input. -/
def netLanesWrong : ChangeSpec := { name := "netLanes", fn := fun _ => fun
  | [d] => { results := [.lit (.bool false)], args := [d] }
  | _ => none }
def NetLanesWrongFalsely : Prop := netLanesRow.holds Try.pinned (OpenSpec.ofChange netLanesWrong)

/-- 'tenementlaw17.NetTurns': WHATEVER THE INPUT: true; the input reads as it did. -/
def netTurnsSpec : ChangeSpec := { name := "netTurns", fn := fun _ => fun
  | [d1, d2] => { results := [.lit (.bool true)], args := [d1, d2] }
  | _ => none }
def netTurnsRow : OpenClaim := { program := "ythojpcfaaiefhaa", sum := "3776a87964f806eb1b82a053ed4de59d817c4b51c577f53ae598ab244bba87ce", func := "tenement/tenementlaw17.NetTurns", spec := "netTurns", apart := false }
def NetTurnsSaid : Prop := netTurnsRow.holds Try.pinned (OpenSpec.ofChange netTurnsSpec)

/-- ITS FALSE NEIGHBOUR: 'it returns false'. Refute it at one input. -/
def netTurnsWrong : ChangeSpec := { name := "netTurns", fn := fun _ => fun
  | [d1, d2] => { results := [.lit (.bool false)], args := [d1, d2] }
  | _ => none }
def NetTurnsWrongFalsely : Prop := netTurnsRow.holds Try.pinned (OpenSpec.ofChange netTurnsWrong)

/-- 'tenementlaw17.NetWrong': WHATEVER THE INPUT: true; the input reads as it did. -/
def netWrongSpec : ChangeSpec := { name := "netWrong", fn := fun _ => fun
  | [d1, d2, d3] => { results := [.lit (.bool true)], args := [d1, d2, d3] }
  | _ => none }
def netWrongRow : OpenClaim := { program := "ythojpcfaaiefhaa", sum := "3776a87964f806eb1b82a053ed4de59d817c4b51c577f53ae598ab244bba87ce", func := "tenement/tenementlaw17.NetWrong", spec := "netWrong", apart := false }
def NetWrongSaid : Prop := netWrongRow.holds Try.pinned (OpenSpec.ofChange netWrongSpec)

/-- ITS FALSE NEIGHBOUR: 'it returns false'. Refute it at one input. -/
def netWrongWrong : ChangeSpec := { name := "netWrong", fn := fun _ => fun
  | [d1, d2, d3] => { results := [.lit (.bool false)], args := [d1, d2, d3] }
  | _ => none }
def NetWrongWrongFalsely : Prop := netWrongRow.holds Try.pinned (OpenSpec.ofChange netWrongWrong)

/-- 'tenementlaw17.NetRoom': WHATEVER THE INPUT: true; the input reads as it did. -/
def netRoomSpec : ChangeSpec := { name := "netRoom", fn := fun _ => fun
  | [d1, d2] => { results := [.lit (.bool true)], args := [d1, d2] }
  | _ => none }
def netRoomRow : OpenClaim := { program := "ythojpcfaaiefhaa", sum := "3776a87964f806eb1b82a053ed4de59d817c4b51c577f53ae598ab244bba87ce", func := "tenement/tenementlaw17.NetRoom", spec := "netRoom", apart := false }
def NetRoomSaid : Prop := netRoomRow.holds Try.pinned (OpenSpec.ofChange netRoomSpec)

/-- ITS FALSE NEIGHBOUR: 'it returns false'. Refute it at one input. -/
def netRoomWrong : ChangeSpec := { name := "netRoom", fn := fun _ => fun
  | [d1, d2] => { results := [.lit (.bool false)], args := [d1, d2] }
  | _ => none }
def NetRoomWrongFalsely : Prop := netRoomRow.holds Try.pinned (OpenSpec.ofChange netRoomWrong)

/- THE SECOND FORM. 'bulk': how many values and letters a reading holds, each counted each time it is reached (what is shared counts as often as it is met; a slice's spare places count too). A statement '..UptoSaid' is the law's where the arguments, and the package variables that the reading takes, are together of bulk at most 1048576: NARROWER than '..Said'. Prove '..Said' where nothing that the law and all that it calls make is longer than what came in: it says more and counts as full. Else prove '..UptoSaid'. A law counts once. -/
mutual
def uptoBulk {H : Type} : DataW H → Nat
  | .lit (.string bytes) => bytes.length + 1
  | .lit _ => 1
  | .nil => 1
  | .ptr d => uptoBulk d + 1
  | .slice elems spare => uptoBulkAll elems + uptoBulkAll spare + 1
  | .agg parts => uptoBulkAll parts + 1
  | .iface _ d => uptoBulk d + 1
  | .map entries => uptoBulkEntries entries + 1
  | .held _ => 1
def uptoBulkAll {H : Type} : List (DataW H) → Nat
  | [] => 0
  | d :: r => uptoBulk d + uptoBulkAll r
def uptoBulkEntries {H : Type} : List (Lit × DataW H) → Nat
  | [] => 0
  | x :: r => uptoBulkEntry x + uptoBulkEntries r
def uptoBulkEntry {H : Type} : Lit × DataW H → Nat
  | (.string bytes, d) => bytes.length + uptoBulk d + 1
  | (_, d) => uptoBulk d + 1
 end
def uptoSmall : (H : Type) → List (DataW H) → Bool := fun _ ds => decide (uptoBulkAll ds ≤ 1048576)
def OpenSpec.upto (s : _root_.Go.ChangeSpec) : _root_.Go.OpenSpec := { _root_.Go.OpenSpec.ofChange s with cond := some uptoSmall }

/-- 'tenementlaw05.LanePlays', WHERE WHAT IT READS IS OF BULK AT MOST 1048576: true; the input reads as it did. -/
def lanePlaysUptoRow : OpenClaim := { program := "ythojpcfaaiefhaa", sum := "3776a87964f806eb1b82a053ed4de59d817c4b51c577f53ae598ab244bba87ce", func := "tenement/tenementlaw05.LanePlays", spec := "lanePlays", apart := false, narrowed := true }
def LanePlaysUptoSaid : Prop := lanePlaysUptoRow.holds Try.pinned (OpenSpec.upto lanePlaysSpec)

/-- 'tenementlaw05.LaneOrder', WHERE WHAT IT READS IS OF BULK AT MOST 1048576: true; the input reads as it did. -/
def laneOrderUptoRow : OpenClaim := { program := "ythojpcfaaiefhaa", sum := "3776a87964f806eb1b82a053ed4de59d817c4b51c577f53ae598ab244bba87ce", func := "tenement/tenementlaw05.LaneOrder", spec := "laneOrder", apart := false, narrowed := true }
def LaneOrderUptoSaid : Prop := laneOrderUptoRow.holds Try.pinned (OpenSpec.upto laneOrderSpec)

/-- 'tenementlaw05.LaneKinds', WHERE WHAT IT READS IS OF BULK AT MOST 1048576: true; the input reads as it did. -/
def laneKindsUptoRow : OpenClaim := { program := "ythojpcfaaiefhaa", sum := "3776a87964f806eb1b82a053ed4de59d817c4b51c577f53ae598ab244bba87ce", func := "tenement/tenementlaw05.LaneKinds", spec := "laneKinds", apart := false, narrowed := true }
def LaneKindsUptoSaid : Prop := laneKindsUptoRow.holds Try.pinned (OpenSpec.upto laneKindsSpec)

/-- 'tenementlaw05.LaneTurns', WHERE WHAT IT READS IS OF BULK AT MOST 1048576: true; the input reads as it did. -/
def laneTurnsUptoRow : OpenClaim := { program := "ythojpcfaaiefhaa", sum := "3776a87964f806eb1b82a053ed4de59d817c4b51c577f53ae598ab244bba87ce", func := "tenement/tenementlaw05.LaneTurns", spec := "laneTurns", apart := false, narrowed := true }
def LaneTurnsUptoSaid : Prop := laneTurnsUptoRow.holds Try.pinned (OpenSpec.upto laneTurnsSpec)

/-- 'tenementlaw17.NetPlays', WHERE WHAT IT READS IS OF BULK AT MOST 1048576: true; the input reads as it did. -/
def netPlaysUptoRow : OpenClaim := { program := "ythojpcfaaiefhaa", sum := "3776a87964f806eb1b82a053ed4de59d817c4b51c577f53ae598ab244bba87ce", func := "tenement/tenementlaw17.NetPlays", spec := "netPlays", apart := false, narrowed := true }
def NetPlaysUptoSaid : Prop := netPlaysUptoRow.holds Try.pinned (OpenSpec.upto netPlaysSpec)

/-- 'tenementlaw17.NetLanes', WHERE WHAT IT READS IS OF BULK AT MOST 1048576: true; the input reads as it did. -/
def netLanesUptoRow : OpenClaim := { program := "ythojpcfaaiefhaa", sum := "3776a87964f806eb1b82a053ed4de59d817c4b51c577f53ae598ab244bba87ce", func := "tenement/tenementlaw17.NetLanes", spec := "netLanes", apart := false, narrowed := true }
def NetLanesUptoSaid : Prop := netLanesUptoRow.holds Try.pinned (OpenSpec.upto netLanesSpec)

/-- 'tenementlaw17.NetTurns', WHERE WHAT IT READS IS OF BULK AT MOST 1048576: true; the input reads as it did. -/
def netTurnsUptoRow : OpenClaim := { program := "ythojpcfaaiefhaa", sum := "3776a87964f806eb1b82a053ed4de59d817c4b51c577f53ae598ab244bba87ce", func := "tenement/tenementlaw17.NetTurns", spec := "netTurns", apart := false, narrowed := true }
def NetTurnsUptoSaid : Prop := netTurnsUptoRow.holds Try.pinned (OpenSpec.upto netTurnsSpec)

/-- 'tenementlaw17.NetWrong', WHERE WHAT IT READS IS OF BULK AT MOST 1048576: true; the input reads as it did. -/
def netWrongUptoRow : OpenClaim := { program := "ythojpcfaaiefhaa", sum := "3776a87964f806eb1b82a053ed4de59d817c4b51c577f53ae598ab244bba87ce", func := "tenement/tenementlaw17.NetWrong", spec := "netWrong", apart := false, narrowed := true }
def NetWrongUptoSaid : Prop := netWrongUptoRow.holds Try.pinned (OpenSpec.upto netWrongSpec)

/-- 'tenementlaw17.NetRoom', WHERE WHAT IT READS IS OF BULK AT MOST 1048576: true; the input reads as it did. -/
def netRoomUptoRow : OpenClaim := { program := "ythojpcfaaiefhaa", sum := "3776a87964f806eb1b82a053ed4de59d817c4b51c577f53ae598ab244bba87ce", func := "tenement/tenementlaw17.NetRoom", spec := "netRoom", apart := false, narrowed := true }
def NetRoomUptoSaid : Prop := netRoomUptoRow.holds Try.pinned (OpenSpec.upto netRoomSpec)

end Rows
end Go.Proofs.Ythojpcfaaiefhaa
