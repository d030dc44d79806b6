/-
  No cell of these rows narrows 'for every input' (looked for: loops, veiled, ifaces, maps, wideKeys, modest, calm, conditions, laid).
  DERIVED. THE GIVEN ROWS OF THIS SEAT. 4 by the template 'for every input the law returns true; each argument reads behind the call as it read before'; 0 by the template 'total and deterministic' (their statements: YteecidddfcbabaaTotals.lean).
  GIVEN WITH THE SEED: the statements are not yours to turn. If you find one false, say at which input.
  Laid BY PROGRAM, IN A SANDBOX (cutbox-rows.mjs): the forced cells as the released guide's own fill.sh prints them over the translation 64e28571b090a47b… (all of the seat's roots in one cut). By AI agents, Wed Nov 11 2026. No macro, syntax, notation, axiom, sorry.
-/
import Derived.Test.YteecidddfcbabaaChecked
import GoSem.Claim
import GoSem.ClaimJoined
import GoSem.ClaimMapViews
import Derived.JoinedTies
import Derived.KernelRfl
namespace Go.Proofs.Yteecidddfcbabaa
/- THE CELL 'sum', in the pinned program and in every row, IS THE sha256 OF THE DUMP (.gsa) THAT YteecidddfcbabaaProg.lean LOADS. Nothing in Lean hashes anything: it is a label: what it is worth is what the hold of that sum in a sandbox is worth. -/
noncomputable def Try.pinned : Pinned := { name := "yteecidddfcbabaa", sum := "64e28571b090a47b46c9439766ff5b92ece1c83b7439fe5caf1c10b1653abe30", checked := Try.checked }
namespace Rows
def none {H : Type} : Left H := { results := [], args := [] }

/-- 'acmelaw09.BoltTorques': WHATEVER THE INPUT: true; the input reads as it did. -/
def boltTorquesSpec : ChangeSpec := { name := "boltTorques", fn := fun _ => fun
  | [d1, d2] => { results := [.lit (.bool true)], args := [d1, d2] }
  | _ => none }
def boltTorquesRow : OpenClaim := { program := "yteecidddfcbabaa", sum := "64e28571b090a47b46c9439766ff5b92ece1c83b7439fe5caf1c10b1653abe30", func := "acme/acmelaw09.BoltTorques", spec := "boltTorques", unfollowed := true, recurses := true, apart := false }
def BoltTorquesSaid : Prop := boltTorquesRow.holds Try.pinned (OpenSpec.ofChange boltTorquesSpec)

/-- ITS FALSE NEIGHBOUR: 'it returns false'. Refute it at one input. -/
def boltTorquesWrong : ChangeSpec := { name := "boltTorques", fn := fun _ => fun
  | [d1, d2] => { results := [.lit (.bool false)], args := [d1, d2] }
  | _ => none }
def BoltTorquesWrongFalsely : Prop := boltTorquesRow.holds Try.pinned (OpenSpec.ofChange boltTorquesWrong)

/-- 'acmelaw09.BoltBests': WHATEVER THE INPUT: true; the input reads as it did. -/
def boltBestsSpec : ChangeSpec := { name := "boltBests", fn := fun _ => fun
  | [d1, d2, d3] => { results := [.lit (.bool true)], args := [d1, d2, d3] }
  | _ => none }
def boltBestsRow : OpenClaim := { program := "yteecidddfcbabaa", sum := "64e28571b090a47b46c9439766ff5b92ece1c83b7439fe5caf1c10b1653abe30", func := "acme/acmelaw09.BoltBests", spec := "boltBests", unfollowed := true, recurses := true, apart := false }
def BoltBestsSaid : Prop := boltBestsRow.holds Try.pinned (OpenSpec.ofChange boltBestsSpec)

/-- ITS FALSE NEIGHBOUR: 'it returns false'. Refute it at one input. -/
def boltBestsWrong : ChangeSpec := { name := "boltBests", fn := fun _ => fun
  | [d1, d2, d3] => { results := [.lit (.bool false)], args := [d1, d2, d3] }
  | _ => none }
def BoltBestsWrongFalsely : Prop := boltBestsRow.holds Try.pinned (OpenSpec.ofChange boltBestsWrong)

/-- 'acmelaw09.BoltLearns': WHATEVER THE INPUT: true; the input reads as it did. -/
def boltLearnsSpec : ChangeSpec := { name := "boltLearns", fn := fun _ => fun
  | [d1, d2, d3] => { results := [.lit (.bool true)], args := [d1, d2, d3] }
  | _ => none }
def boltLearnsRow : OpenClaim := { program := "yteecidddfcbabaa", sum := "64e28571b090a47b46c9439766ff5b92ece1c83b7439fe5caf1c10b1653abe30", func := "acme/acmelaw09.BoltLearns", spec := "boltLearns", unfollowed := true, recurses := true, apart := false }
def BoltLearnsSaid : Prop := boltLearnsRow.holds Try.pinned (OpenSpec.ofChange boltLearnsSpec)

/-- ITS FALSE NEIGHBOUR: 'it returns false'. Refute it at one input. -/
def boltLearnsWrong : ChangeSpec := { name := "boltLearns", fn := fun _ => fun
  | [d1, d2, d3] => { results := [.lit (.bool false)], args := [d1, d2, d3] }
  | _ => none }
def BoltLearnsWrongFalsely : Prop := boltLearnsRow.holds Try.pinned (OpenSpec.ofChange boltLearnsWrong)

/-- 'acmetop.TopBoltZone': WHATEVER THE INPUT: true; the input reads as it did. -/
def topBoltZoneSpec : ChangeSpec := { name := "topBoltZone", fn := fun _ => fun
  | [d1, d2, d3] => { results := [.lit (.bool true)], args := [d1, d2, d3] }
  | _ => none }
def topBoltZoneRow : OpenClaim := { program := "yteecidddfcbabaa", sum := "64e28571b090a47b46c9439766ff5b92ece1c83b7439fe5caf1c10b1653abe30", func := "acme/acmetop.TopBoltZone", spec := "topBoltZone", unfollowed := true, recurses := true, apart := false }
def TopBoltZoneSaid : Prop := topBoltZoneRow.holds Try.pinned (OpenSpec.ofChange topBoltZoneSpec)

/-- ITS FALSE NEIGHBOUR: 'it returns false'. Refute it at one input. -/
def topBoltZoneWrong : ChangeSpec := { name := "topBoltZone", fn := fun _ => fun
  | [d1, d2, d3] => { results := [.lit (.bool false)], args := [d1, d2, d3] }
  | _ => none }
def TopBoltZoneWrongFalsely : Prop := topBoltZoneRow.holds Try.pinned (OpenSpec.ofChange topBoltZoneWrong)

/- THE SECOND FORM. 'bulk': how many values and letters a reading holds, each counted each time it is reached (what is shared counts as often as it is met; a slice's spare places count too). A statement '..UptoSaid' is the law's where the arguments, and the package variables that the reading takes, are together of bulk at most 1048576: NARROWER than '..Said'. Prove '..Said' where nothing that the law and all that it calls make is longer than what came in: it says more and counts as full. Else prove '..UptoSaid'. A law counts once. -/
mutual
def uptoBulk {H : Type} : DataW H → Nat
  | .lit (.string bytes) => bytes.length + 1
  | .lit _ => 1
  | .nil => 1
  | .ptr d => uptoBulk d + 1
  | .slice elems spare => uptoBulkAll elems + uptoBulkAll spare + 1
  | .agg parts => uptoBulkAll parts + 1
  | .iface _ d => uptoBulk d + 1
  | .map entries => uptoBulkEntries entries + 1
  | .held _ => 1
def uptoBulkAll {H : Type} : List (DataW H) → Nat
  | [] => 0
  | d :: r => uptoBulk d + uptoBulkAll r
def uptoBulkEntries {H : Type} : List (Lit × DataW H) → Nat
  | [] => 0
  | x :: r => uptoBulkEntry x + uptoBulkEntries r
def uptoBulkEntry {H : Type} : Lit × DataW H → Nat
  | (.string bytes, d) => bytes.length + uptoBulk d + 1
  | (_, d) => uptoBulk d + 1
 end
def uptoSmall : (H : Type) → List (DataW H) → Bool := fun _ ds => decide (uptoBulkAll ds ≤ 1048576)
def OpenSpec.upto (s : _root_.Go.ChangeSpec) : _root_.Go.OpenSpec := { _root_.Go.OpenSpec.ofChange s with cond := some uptoSmall }

/-- 'acmelaw09.BoltTorques', WHERE WHAT IT READS IS OF BULK AT MOST 1048576: true; the input reads as it did. -/
def boltTorquesUptoRow : OpenClaim := { program := "yteecidddfcbabaa", sum := "64e28571b090a47b46c9439766ff5b92ece1c83b7439fe5caf1c10b1653abe30", func := "acme/acmelaw09.BoltTorques", spec := "boltTorques", unfollowed := true, recurses := true, apart := false, narrowed := true }
def BoltTorquesUptoSaid : Prop := boltTorquesUptoRow.holds Try.pinned (OpenSpec.upto boltTorquesSpec)

/-- 'acmelaw09.BoltBests', WHERE WHAT IT READS IS OF BULK AT MOST 1048576: true; the input reads as it did. -/
def boltBestsUptoRow : OpenClaim := { program := "yteecidddfcbabaa", sum := "64e28571b090a47b46c9439766ff5b92ece1c83b7439fe5caf1c10b1653abe30", func := "acme/acmelaw09.BoltBests", spec := "boltBests", unfollowed := true, recurses := true, apart := false, narrowed := true }
def BoltBestsUptoSaid : Prop := boltBestsUptoRow.holds Try.pinned (OpenSpec.upto boltBestsSpec)

/-- 'acmelaw09.BoltLearns', WHERE WHAT IT READS IS OF BULK AT MOST 1048576: true; the input reads as it did. -/
def boltLearnsUptoRow : OpenClaim := { program := "yteecidddfcbabaa", sum := "64e28571b090a47b46c9439766ff5b92ece1c83b7439fe5caf1c10b1653abe30", func := "acme/acmelaw09.BoltLearns", spec := "boltLearns", unfollowed := true, recurses := true, apart := false, narrowed := true }
def BoltLearnsUptoSaid : Prop := boltLearnsUptoRow.holds Try.pinned (OpenSpec.upto boltLearnsSpec)

/-- 'acmetop.TopBoltZone', WHERE WHAT IT READS IS OF BULK AT MOST 1048576: true; the input reads as it did. -/
def topBoltZoneUptoRow : OpenClaim := { program := "yteecidddfcbabaa", sum := "64e28571b090a47b46c9439766ff5b92ece1c83b7439fe5caf1c10b1653abe30", func := "acme/acmetop.TopBoltZone", spec := "topBoltZone", unfollowed := true, recurses := true, apart := false, narrowed := true }
def TopBoltZoneUptoSaid : Prop := topBoltZoneUptoRow.holds Try.pinned (OpenSpec.upto topBoltZoneSpec)

end Rows
end Go.Proofs.Yteecidddfcbabaa
