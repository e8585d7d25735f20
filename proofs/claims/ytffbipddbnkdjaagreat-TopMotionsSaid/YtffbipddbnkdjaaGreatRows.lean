/-
  No cell of these rows narrows 'for every input' (looked for: loops, veiled, ifaces, maps, wideKeys, modest, calm, conditions, laid).
  DERIVED. THE GIVEN ROWS OF THIS SEAT. 3 by the template 'for every input the law returns true; each argument reads behind the call as it read before'; 0 by the template 'total and deterministic' (their statements: YtffbipddbnkdjaaGreatTotals.lean).
  GIVEN WITH THE SEED: the statements are not yours to turn. If you find one false, say at which input.
  Laid BY PROGRAM, IN A SANDBOX (cutbox-rows.mjs): the forced cells as the released guide's own fill.sh prints them over the translation e9a8ec1741a2680c… (all of the seat's roots in one cut). By AI agents, Wed Nov 11 2026. No macro, syntax, notation, axiom, sorry.
-/
import Derived.Test.YtffbipddbnkdjaaGreatChecked
import GoSem.Claim
import GoSem.ClaimJoined
import GoSem.ClaimMapViews
import Derived.JoinedTies
import Derived.KernelRfl
namespace Go.Proofs.YtffbipddbnkdjaaGreat
/- THE CELL 'sum', in the pinned program and in every row, IS THE sha256 OF THE DUMP (.gsa) THAT YtffbipddbnkdjaaGreatProg.lean LOADS. Nothing in Lean hashes anything: it is a label: what it is worth is what the hold of that sum in a sandbox is worth. -/
noncomputable def Tryz.pinned : Pinned := { name := "ytffbipddbnkdjaagreat", sum := "e9a8ec1741a2680cc00b1dffc7fc8ed3f5e5efcfccddcbdf5556687085ff5ec7", checked := Tryz.checked }
namespace Rows
def none {H : Type} : Left H := { results := [], args := [] }

/-- 'bulliontop.TopMint': WHATEVER THE INPUT: true; the input reads as it did. -/
def topMintSpec : ChangeSpec := { name := "topMint", fn := fun _ => fun
  | [d1, d2] => { results := [.lit (.bool true)], args := [d1, d2] }
  | _ => none }
def topMintRow : OpenClaim := { program := "ytffbipddbnkdjaagreat", sum := "e9a8ec1741a2680cc00b1dffc7fc8ed3f5e5efcfccddcbdf5556687085ff5ec7", func := "bullion/bulliontop.TopMint", spec := "topMint", inPlace := ["math/bits.Add64", "math/bits.Sub64", "slices.overlaps[bullion/api.Due]"], unfollowed := true, recurses := true, named := ["math/bits.divideError", "math/bits.overflowError"], plainKeys := false, apart := false }
def TopMintSaid : Prop := topMintRow.holds Tryz.pinned (OpenSpec.ofChange topMintSpec)

/-- ITS FALSE NEIGHBOUR: 'it returns false'. Refute it at one input. -/
def topMintWrong : ChangeSpec := { name := "topMint", fn := fun _ => fun
  | [d1, d2] => { results := [.lit (.bool false)], args := [d1, d2] }
  | _ => none }
def TopMintWrongFalsely : Prop := topMintRow.holds Tryz.pinned (OpenSpec.ofChange topMintWrong)

/-- 'bulliontop.TopQueues': WHATEVER THE INPUT: true; the input reads as it did. -/
def topQueuesSpec : ChangeSpec := { name := "topQueues", fn := fun _ => fun
  | [d1, d2] => { results := [.lit (.bool true)], args := [d1, d2] }
  | _ => none }
def topQueuesRow : OpenClaim := { program := "ytffbipddbnkdjaagreat", sum := "e9a8ec1741a2680cc00b1dffc7fc8ed3f5e5efcfccddcbdf5556687085ff5ec7", func := "bullion/bulliontop.TopQueues", spec := "topQueues", inPlace := ["math/bits.Add64", "math/bits.Sub64", "slices.overlaps[bullion/api.Due]"], unfollowed := true, recurses := true, named := ["math/bits.divideError", "math/bits.overflowError"], plainKeys := false, apart := false }
def TopQueuesSaid : Prop := topQueuesRow.holds Tryz.pinned (OpenSpec.ofChange topQueuesSpec)

/-- ITS FALSE NEIGHBOUR: 'it returns false'. Refute it at one input. -/
def topQueuesWrong : ChangeSpec := { name := "topQueues", fn := fun _ => fun
  | [d1, d2] => { results := [.lit (.bool false)], args := [d1, d2] }
  | _ => none }
def TopQueuesWrongFalsely : Prop := topQueuesRow.holds Tryz.pinned (OpenSpec.ofChange topQueuesWrong)

/-- 'bulliontop.TopMotions': WHATEVER THE INPUT: true; the input reads as it did. -/
def topMotionsSpec : ChangeSpec := { name := "topMotions", fn := fun _ => fun
  | [d1, d2] => { results := [.lit (.bool true)], args := [d1, d2] }
  | _ => none }
def topMotionsRow : OpenClaim := { program := "ytffbipddbnkdjaagreat", sum := "e9a8ec1741a2680cc00b1dffc7fc8ed3f5e5efcfccddcbdf5556687085ff5ec7", func := "bullion/bulliontop.TopMotions", spec := "topMotions", inPlace := ["math/bits.Add64", "math/bits.Sub64", "slices.overlaps[bullion/api.Due]"], unfollowed := true, recurses := true, named := ["math/bits.divideError", "math/bits.overflowError"], plainKeys := false, apart := false }
def TopMotionsSaid : Prop := topMotionsRow.holds Tryz.pinned (OpenSpec.ofChange topMotionsSpec)

/-- ITS FALSE NEIGHBOUR: 'it returns false'. Refute it at one input. -/
def topMotionsWrong : ChangeSpec := { name := "topMotions", fn := fun _ => fun
  | [d1, d2] => { results := [.lit (.bool false)], args := [d1, d2] }
  | _ => none }
def TopMotionsWrongFalsely : Prop := topMotionsRow.holds Tryz.pinned (OpenSpec.ofChange topMotionsWrong)

/- THE SECOND FORM. 'bulk': how many values and letters a reading holds, each counted each time it is reached (what is shared counts as often as it is met; a slice's spare places count too). A statement '..UptoSaid' is the law's where the arguments, and the package variables that the reading takes, are together of bulk at most 1048576: NARROWER than '..Said'. Prove '..Said' where nothing that the law and all that it calls make is longer than what came in: it says more and counts as full. Else prove '..UptoSaid'. A law counts once. -/
mutual
def uptoBulk {H : Type} : DataW H → Nat
  | .lit (.string bytes) => bytes.length + 1
  | .lit _ => 1
  | .nil => 1
  | .ptr d => uptoBulk d + 1
  | .slice elems spare => uptoBulkAll elems + uptoBulkAll spare + 1
  | .agg parts => uptoBulkAll parts + 1
  | .iface _ d => uptoBulk d + 1
  | .map entries => uptoBulkEntries entries + 1
  | .held _ => 1
def uptoBulkAll {H : Type} : List (DataW H) → Nat
  | [] => 0
  | d :: r => uptoBulk d + uptoBulkAll r
def uptoBulkEntries {H : Type} : List (Lit × DataW H) → Nat
  | [] => 0
  | x :: r => uptoBulkEntry x + uptoBulkEntries r
def uptoBulkEntry {H : Type} : Lit × DataW H → Nat
  | (.string bytes, d) => bytes.length + uptoBulk d + 1
  | (_, d) => uptoBulk d + 1
 end
def uptoSmall : (H : Type) → List (DataW H) → Bool := fun _ ds => decide (uptoBulkAll ds ≤ 1048576)
def OpenSpec.upto (s : _root_.Go.ChangeSpec) : _root_.Go.OpenSpec := { _root_.Go.OpenSpec.ofChange s with cond := some uptoSmall }

/-- 'bulliontop.TopMint', WHERE WHAT IT READS IS OF BULK AT MOST 1048576: true; the input reads as it did. -/
def topMintUptoRow : OpenClaim := { program := "ytffbipddbnkdjaagreat", sum := "e9a8ec1741a2680cc00b1dffc7fc8ed3f5e5efcfccddcbdf5556687085ff5ec7", func := "bullion/bulliontop.TopMint", spec := "topMint", inPlace := ["math/bits.Add64", "math/bits.Sub64", "slices.overlaps[bullion/api.Due]"], unfollowed := true, recurses := true, named := ["math/bits.divideError", "math/bits.overflowError"], plainKeys := false, apart := false, narrowed := true }
def TopMintUptoSaid : Prop := topMintUptoRow.holds Tryz.pinned (OpenSpec.upto topMintSpec)

/-- 'bulliontop.TopQueues', WHERE WHAT IT READS IS OF BULK AT MOST 1048576: true; the input reads as it did. -/
def topQueuesUptoRow : OpenClaim := { program := "ytffbipddbnkdjaagreat", sum := "e9a8ec1741a2680cc00b1dffc7fc8ed3f5e5efcfccddcbdf5556687085ff5ec7", func := "bullion/bulliontop.TopQueues", spec := "topQueues", inPlace := ["math/bits.Add64", "math/bits.Sub64", "slices.overlaps[bullion/api.Due]"], unfollowed := true, recurses := true, named := ["math/bits.divideError", "math/bits.overflowError"], plainKeys := false, apart := false, narrowed := true }
def TopQueuesUptoSaid : Prop := topQueuesUptoRow.holds Tryz.pinned (OpenSpec.upto topQueuesSpec)

/-- 'bulliontop.TopMotions', WHERE WHAT IT READS IS OF BULK AT MOST 1048576: true; the input reads as it did. -/
def topMotionsUptoRow : OpenClaim := { program := "ytffbipddbnkdjaagreat", sum := "e9a8ec1741a2680cc00b1dffc7fc8ed3f5e5efcfccddcbdf5556687085ff5ec7", func := "bullion/bulliontop.TopMotions", spec := "topMotions", inPlace := ["math/bits.Add64", "math/bits.Sub64", "slices.overlaps[bullion/api.Due]"], unfollowed := true, recurses := true, named := ["math/bits.divideError", "math/bits.overflowError"], plainKeys := false, apart := false, narrowed := true }
def TopMotionsUptoSaid : Prop := topMotionsUptoRow.holds Tryz.pinned (OpenSpec.upto topMotionsSpec)

end Rows
end Go.Proofs.YtffbipddbnkdjaaGreat
