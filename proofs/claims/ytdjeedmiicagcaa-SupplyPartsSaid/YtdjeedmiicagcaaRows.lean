/-
  No cell of these rows narrows 'for every input' (looked for: loops, veiled, ifaces, maps, wideKeys, modest, calm, conditions, laid).
  DERIVED. THE GIVEN ROWS OF THIS SEAT. 11 by the template 'for every input the law returns true; each argument reads behind the call as it read before'; 0 by the template 'total and deterministic' (their statements: YtdjeedmiicagcaaTotals.lean).
  GIVEN WITH THE SEED: the statements are not yours to turn. If you find one false, say at which input.
  Laid BY PROGRAM, IN A SANDBOX (cutbox-rows.mjs): the forced cells as the released guide's own fill.sh prints them over the translation a10c8844eb007d0a… (all of the seat's roots in one cut). By AI agents, Wed Nov 11 2026. No macro, syntax, notation, axiom, sorry.
-/
import Derived.Test.YtdjeedmiicagcaaChecked
import GoSem.Claim
import GoSem.ClaimJoined
import GoSem.ClaimMapViews
import Derived.JoinedTies
import Derived.KernelRfl
namespace Go.Proofs.Ytdjeedmiicagcaa
/- THE CELL 'sum', in the pinned program and in every row, IS THE sha256 OF THE DUMP (.gsa) THAT YtdjeedmiicagcaaProg.lean LOADS. Nothing in Lean hashes anything: it is a label: what it is worth is what the hold of that sum in a sandbox is worth. -/
noncomputable def Try.pinned : Pinned := { name := "ytdjeedmiicagcaa", sum := "a10c8844eb007d0a512c06b8e383dce4e512887e11c42ce330586b850d24b6c5", checked := Try.checked }
namespace Rows
def none {H : Type} : Left H := { results := [], args := [] }

/-- 'bullionlaw03.RootRises': WHATEVER THE INPUT: true; the input reads as it did. -/
def rootRisesSpec : ChangeSpec := { name := "rootRises", fn := fun _ => fun
  | [d1, d2] => { results := [.lit (.bool true)], args := [d1, d2] }
  | _ => none }
def rootRisesRow : OpenClaim := { program := "ytdjeedmiicagcaa", sum := "a10c8844eb007d0a512c06b8e383dce4e512887e11c42ce330586b850d24b6c5", func := "bullion/bullionlaw03.RootRises", spec := "rootRises", apart := false }
def RootRisesSaid : Prop := rootRisesRow.holds Try.pinned (OpenSpec.ofChange rootRisesSpec)

/-- ITS FALSE NEIGHBOUR: 'it returns false'. Refute it at one input. -/
def rootRisesWrong : ChangeSpec := { name := "rootRises", fn := fun _ => fun
  | [d1, d2] => { results := [.lit (.bool false)], args := [d1, d2] }
  | _ => none }
def RootRisesWrongFalsely : Prop := rootRisesRow.holds Try.pinned (OpenSpec.ofChange rootRisesWrong)

/-- 'bullionlaw03.RootOf': WHATEVER THE INPUT: true; the input reads as it did. -/
def rootOfSpec : ChangeSpec := { name := "rootOf", fn := fun _ => fun
  | [d] => { results := [.lit (.bool true)], args := [d] }
  | _ => none }
def rootOfRow : OpenClaim := { program := "ytdjeedmiicagcaa", sum := "a10c8844eb007d0a512c06b8e383dce4e512887e11c42ce330586b850d24b6c5", func := "bullion/bullionlaw03.RootOf", spec := "rootOf", apart := false }
def RootOfSaid : Prop := rootOfRow.holds Try.pinned (OpenSpec.ofChange rootOfSpec)

/-- ITS FALSE NEIGHBOUR: 'it returns false'. Refute it at one input. -/
def rootOfWrong : ChangeSpec := { name := "rootOf", fn := fun _ => fun
  | [d] => { results := [.lit (.bool false)], args := [d] }
  | _ => none }
def RootOfWrongFalsely : Prop := rootOfRow.holds Try.pinned (OpenSpec.ofChange rootOfWrong)

/-- 'bullionlaw03.RootBack': WHATEVER THE INPUT: true; the input reads as it did. -/
def rootBackSpec : ChangeSpec := { name := "rootBack", fn := fun _ => fun
  | [d] => { results := [.lit (.bool true)], args := [d] }
  | _ => none }
def rootBackRow : OpenClaim := { program := "ytdjeedmiicagcaa", sum := "a10c8844eb007d0a512c06b8e383dce4e512887e11c42ce330586b850d24b6c5", func := "bullion/bullionlaw03.RootBack", spec := "rootBack", apart := false }
def RootBackSaid : Prop := rootBackRow.holds Try.pinned (OpenSpec.ofChange rootBackSpec)

/-- ITS FALSE NEIGHBOUR: 'it returns false'. Refute it at one input. -/
def rootBackWrong : ChangeSpec := { name := "rootBack", fn := fun _ => fun
  | [d] => { results := [.lit (.bool false)], args := [d] }
  | _ => none }
def RootBackWrongFalsely : Prop := rootBackRow.holds Try.pinned (OpenSpec.ofChange rootBackWrong)

/-- 'bullionlaw17.PurseMoves': WHATEVER THE INPUT: true; the input reads as it did. -/
def purseMovesSpec : ChangeSpec := { name := "purseMoves", fn := fun _ => fun
  | [d1, d2] => { results := [.lit (.bool true)], args := [d1, d2] }
  | _ => none }
def purseMovesRow : OpenClaim := { program := "ytdjeedmiicagcaa", sum := "a10c8844eb007d0a512c06b8e383dce4e512887e11c42ce330586b850d24b6c5", func := "bullion/bullionlaw17.PurseMoves", spec := "purseMoves", inPlace := ["math/bits.Sub64", "math/bits.Add64"], apart := false }
def PurseMovesSaid : Prop := purseMovesRow.holds Try.pinned (OpenSpec.ofChange purseMovesSpec)

/-- ITS FALSE NEIGHBOUR: 'it returns false'. Refute it at one input. -/
def purseMovesWrong : ChangeSpec := { name := "purseMoves", fn := fun _ => fun
  | [d1, d2] => { results := [.lit (.bool false)], args := [d1, d2] }
  | _ => none }
def PurseMovesWrongFalsely : Prop := purseMovesRow.holds Try.pinned (OpenSpec.ofChange purseMovesWrong)

/-- 'bullionlaw17.PurseKeeps': WHATEVER THE INPUT: true; the input reads as it did. -/
def purseKeepsSpec : ChangeSpec := { name := "purseKeeps", fn := fun _ => fun
  | [d1, d2] => { results := [.lit (.bool true)], args := [d1, d2] }
  | _ => none }
def purseKeepsRow : OpenClaim := { program := "ytdjeedmiicagcaa", sum := "a10c8844eb007d0a512c06b8e383dce4e512887e11c42ce330586b850d24b6c5", func := "bullion/bullionlaw17.PurseKeeps", spec := "purseKeeps", inPlace := ["math/bits.Sub64", "math/bits.Add64"], apart := false }
def PurseKeepsSaid : Prop := purseKeepsRow.holds Try.pinned (OpenSpec.ofChange purseKeepsSpec)

/-- ITS FALSE NEIGHBOUR: 'it returns false'. Refute it at one input. -/
def purseKeepsWrong : ChangeSpec := { name := "purseKeeps", fn := fun _ => fun
  | [d1, d2] => { results := [.lit (.bool false)], args := [d1, d2] }
  | _ => none }
def PurseKeepsWrongFalsely : Prop := purseKeepsRow.holds Try.pinned (OpenSpec.ofChange purseKeepsWrong)

/-- 'bullionlaw17.PurseAll': WHATEVER THE INPUT: true; the input reads as it did. -/
def purseAllSpec : ChangeSpec := { name := "purseAll", fn := fun _ => fun
  | [d] => { results := [.lit (.bool true)], args := [d] }
  | _ => none }
def purseAllRow : OpenClaim := { program := "ytdjeedmiicagcaa", sum := "a10c8844eb007d0a512c06b8e383dce4e512887e11c42ce330586b850d24b6c5", func := "bullion/bullionlaw17.PurseAll", spec := "purseAll", inPlace := ["math/bits.Sub64", "math/bits.Add64"], apart := false }
def PurseAllSaid : Prop := purseAllRow.holds Try.pinned (OpenSpec.ofChange purseAllSpec)

/-- ITS FALSE NEIGHBOUR: 'it returns false'. Refute it at one input. -/
def purseAllWrong : ChangeSpec := { name := "purseAll", fn := fun _ => fun
  | [d] => { results := [.lit (.bool false)], args := [d] }
  | _ => none }
def PurseAllWrongFalsely : Prop := purseAllRow.holds Try.pinned (OpenSpec.ofChange purseAllWrong)

/-- 'bullionlaw21.SupplyParts': WHATEVER THE INPUT: true; the input reads as it did. -/
def supplyPartsSpec : ChangeSpec := { name := "supplyParts", fn := fun _ => fun
  | [d] => { results := [.lit (.bool true)], args := [d] }
  | _ => none }
def supplyPartsRow : OpenClaim := { program := "ytdjeedmiicagcaa", sum := "a10c8844eb007d0a512c06b8e383dce4e512887e11c42ce330586b850d24b6c5", func := "bullion/bullionlaw21.SupplyParts", spec := "supplyParts", inPlace := ["math/bits.Add64"], unfollowed := true, recurses := true, apart := false }
def SupplyPartsSaid : Prop := supplyPartsRow.holds Try.pinned (OpenSpec.ofChange supplyPartsSpec)

/-- ITS FALSE NEIGHBOUR: 'it returns false'. Refute it at one input. -/
def supplyPartsWrong : ChangeSpec := { name := "supplyParts", fn := fun _ => fun
  | [d] => { results := [.lit (.bool false)], args := [d] }
  | _ => none }
def SupplyPartsWrongFalsely : Prop := supplyPartsRow.holds Try.pinned (OpenSpec.ofChange supplyPartsWrong)

/-- 'bullionlaw21.SupplyHolds': WHATEVER THE INPUT: true; the input reads as it did. -/
def supplyHoldsSpec : ChangeSpec := { name := "supplyHolds", fn := fun _ => fun
  | [d1, d2] => { results := [.lit (.bool true)], args := [d1, d2] }
  | _ => none }
def supplyHoldsRow : OpenClaim := { program := "ytdjeedmiicagcaa", sum := "a10c8844eb007d0a512c06b8e383dce4e512887e11c42ce330586b850d24b6c5", func := "bullion/bullionlaw21.SupplyHolds", spec := "supplyHolds", inPlace := ["math/bits.Add64", "math/bits.Sub64"], unfollowed := true, recurses := true, apart := false }
def SupplyHoldsSaid : Prop := supplyHoldsRow.holds Try.pinned (OpenSpec.ofChange supplyHoldsSpec)

/-- ITS FALSE NEIGHBOUR: 'it returns false'. Refute it at one input. -/
def supplyHoldsWrong : ChangeSpec := { name := "supplyHolds", fn := fun _ => fun
  | [d1, d2] => { results := [.lit (.bool false)], args := [d1, d2] }
  | _ => none }
def SupplyHoldsWrongFalsely : Prop := supplyHoldsRow.holds Try.pinned (OpenSpec.ofChange supplyHoldsWrong)

/-- 'bullionlaw18.PoolAdds': WHATEVER THE INPUT: true; the input reads as it did. -/
def poolAddsSpec : ChangeSpec := { name := "poolAdds", fn := fun _ => fun
  | [d1, d2] => { results := [.lit (.bool true)], args := [d1, d2] }
  | _ => none }
def poolAddsRow : OpenClaim := { program := "ytdjeedmiicagcaa", sum := "a10c8844eb007d0a512c06b8e383dce4e512887e11c42ce330586b850d24b6c5", func := "bullion/bullionlaw18.PoolAdds", spec := "poolAdds", inPlace := ["math/bits.Add64", "slices.overlaps[bullion/api.Due]"], unfollowed := true, recurses := true, apart := false }
def PoolAddsSaid : Prop := poolAddsRow.holds Try.pinned (OpenSpec.ofChange poolAddsSpec)

/-- ITS FALSE NEIGHBOUR: 'it returns false'. Refute it at one input. -/
def poolAddsWrong : ChangeSpec := { name := "poolAdds", fn := fun _ => fun
  | [d1, d2] => { results := [.lit (.bool false)], args := [d1, d2] }
  | _ => none }
def PoolAddsWrongFalsely : Prop := poolAddsRow.holds Try.pinned (OpenSpec.ofChange poolAddsWrong)

/-- 'bullionlaw18.PoolSums': WHATEVER THE INPUT: true; the input reads as it did. -/
def poolSumsSpec : ChangeSpec := { name := "poolSums", fn := fun _ => fun
  | [d1, d2] => { results := [.lit (.bool true)], args := [d1, d2] }
  | _ => none }
def poolSumsRow : OpenClaim := { program := "ytdjeedmiicagcaa", sum := "a10c8844eb007d0a512c06b8e383dce4e512887e11c42ce330586b850d24b6c5", func := "bullion/bullionlaw18.PoolSums", spec := "poolSums", inPlace := ["math/bits.Add64", "slices.overlaps[bullion/api.Due]"], unfollowed := true, recurses := true, apart := false }
def PoolSumsSaid : Prop := poolSumsRow.holds Try.pinned (OpenSpec.ofChange poolSumsSpec)

/-- ITS FALSE NEIGHBOUR: 'it returns false'. Refute it at one input. -/
def poolSumsWrong : ChangeSpec := { name := "poolSums", fn := fun _ => fun
  | [d1, d2] => { results := [.lit (.bool false)], args := [d1, d2] }
  | _ => none }
def PoolSumsWrongFalsely : Prop := poolSumsRow.holds Try.pinned (OpenSpec.ofChange poolSumsWrong)

/-- 'bullionlaw18.PoolKeeps': WHATEVER THE INPUT: true; the input reads as it did. -/
def poolKeepsSpec : ChangeSpec := { name := "poolKeeps", fn := fun _ => fun
  | [d1, d2] => { results := [.lit (.bool true)], args := [d1, d2] }
  | _ => none }
def poolKeepsRow : OpenClaim := { program := "ytdjeedmiicagcaa", sum := "a10c8844eb007d0a512c06b8e383dce4e512887e11c42ce330586b850d24b6c5", func := "bullion/bullionlaw18.PoolKeeps", spec := "poolKeeps", inPlace := ["math/bits.Add64", "slices.overlaps[bullion/api.Due]"], unfollowed := true, recurses := true, apart := false }
def PoolKeepsSaid : Prop := poolKeepsRow.holds Try.pinned (OpenSpec.ofChange poolKeepsSpec)

/-- ITS FALSE NEIGHBOUR: 'it returns false'. Refute it at one input. -/
def poolKeepsWrong : ChangeSpec := { name := "poolKeeps", fn := fun _ => fun
  | [d1, d2] => { results := [.lit (.bool false)], args := [d1, d2] }
  | _ => none }
def PoolKeepsWrongFalsely : Prop := poolKeepsRow.holds Try.pinned (OpenSpec.ofChange poolKeepsWrong)

/- THE SECOND FORM. 'bulk': how many values and letters a reading holds, each counted each time it is reached (what is shared counts as often as it is met; a slice's spare places count too). A statement '..UptoSaid' is the law's where the arguments, and the package variables that the reading takes, are together of bulk at most 1048576: NARROWER than '..Said'. Prove '..Said' where nothing that the law and all that it calls make is longer than what came in: it says more and counts as full. Else prove '..UptoSaid'. A law counts once. -/
mutual
def uptoBulk {H : Type} : DataW H → Nat
  | .lit (.string bytes) => bytes.length + 1
  | .lit _ => 1
  | .nil => 1
  | .ptr d => uptoBulk d + 1
  | .slice elems spare => uptoBulkAll elems + uptoBulkAll spare + 1
  | .agg parts => uptoBulkAll parts + 1
  | .iface _ d => uptoBulk d + 1
  | .map entries => uptoBulkEntries entries + 1
  | .held _ => 1
def uptoBulkAll {H : Type} : List (DataW H) → Nat
  | [] => 0
  | d :: r => uptoBulk d + uptoBulkAll r
def uptoBulkEntries {H : Type} : List (Lit × DataW H) → Nat
  | [] => 0
  | x :: r => uptoBulkEntry x + uptoBulkEntries r
def uptoBulkEntry {H : Type} : Lit × DataW H → Nat
  | (.string bytes, d) => bytes.length + uptoBulk d + 1
  | (_, d) => uptoBulk d + 1
 end
def uptoSmall : (H : Type) → List (DataW H) → Bool := fun _ ds => decide (uptoBulkAll ds ≤ 1048576)
def OpenSpec.upto (s : _root_.Go.ChangeSpec) : _root_.Go.OpenSpec := { _root_.Go.OpenSpec.ofChange s with cond := some uptoSmall }

/-- 'bullionlaw03.RootRises', WHERE WHAT IT READS IS OF BULK AT MOST 1048576: true; the input reads as it did. -/
def rootRisesUptoRow : OpenClaim := { program := "ytdjeedmiicagcaa", sum := "a10c8844eb007d0a512c06b8e383dce4e512887e11c42ce330586b850d24b6c5", func := "bullion/bullionlaw03.RootRises", spec := "rootRises", apart := false, narrowed := true }
def RootRisesUptoSaid : Prop := rootRisesUptoRow.holds Try.pinned (OpenSpec.upto rootRisesSpec)

/-- 'bullionlaw03.RootOf', WHERE WHAT IT READS IS OF BULK AT MOST 1048576: true; the input reads as it did. -/
def rootOfUptoRow : OpenClaim := { program := "ytdjeedmiicagcaa", sum := "a10c8844eb007d0a512c06b8e383dce4e512887e11c42ce330586b850d24b6c5", func := "bullion/bullionlaw03.RootOf", spec := "rootOf", apart := false, narrowed := true }
def RootOfUptoSaid : Prop := rootOfUptoRow.holds Try.pinned (OpenSpec.upto rootOfSpec)

/-- 'bullionlaw03.RootBack', WHERE WHAT IT READS IS OF BULK AT MOST 1048576: true; the input reads as it did. -/
def rootBackUptoRow : OpenClaim := { program := "ytdjeedmiicagcaa", sum := "a10c8844eb007d0a512c06b8e383dce4e512887e11c42ce330586b850d24b6c5", func := "bullion/bullionlaw03.RootBack", spec := "rootBack", apart := false, narrowed := true }
def RootBackUptoSaid : Prop := rootBackUptoRow.holds Try.pinned (OpenSpec.upto rootBackSpec)

/-- 'bullionlaw17.PurseMoves', WHERE WHAT IT READS IS OF BULK AT MOST 1048576: true; the input reads as it did. -/
def purseMovesUptoRow : OpenClaim := { program := "ytdjeedmiicagcaa", sum := "a10c8844eb007d0a512c06b8e383dce4e512887e11c42ce330586b850d24b6c5", func := "bullion/bullionlaw17.PurseMoves", spec := "purseMoves", inPlace := ["math/bits.Sub64", "math/bits.Add64"], apart := false, narrowed := true }
def PurseMovesUptoSaid : Prop := purseMovesUptoRow.holds Try.pinned (OpenSpec.upto purseMovesSpec)

/-- 'bullionlaw17.PurseKeeps', WHERE WHAT IT READS IS OF BULK AT MOST 1048576: true; the input reads as it did. -/
def purseKeepsUptoRow : OpenClaim := { program := "ytdjeedmiicagcaa", sum := "a10c8844eb007d0a512c06b8e383dce4e512887e11c42ce330586b850d24b6c5", func := "bullion/bullionlaw17.PurseKeeps", spec := "purseKeeps", inPlace := ["math/bits.Sub64", "math/bits.Add64"], apart := false, narrowed := true }
def PurseKeepsUptoSaid : Prop := purseKeepsUptoRow.holds Try.pinned (OpenSpec.upto purseKeepsSpec)

/-- 'bullionlaw17.PurseAll', WHERE WHAT IT READS IS OF BULK AT MOST 1048576: true; the input reads as it did. -/
def purseAllUptoRow : OpenClaim := { program := "ytdjeedmiicagcaa", sum := "a10c8844eb007d0a512c06b8e383dce4e512887e11c42ce330586b850d24b6c5", func := "bullion/bullionlaw17.PurseAll", spec := "purseAll", inPlace := ["math/bits.Sub64", "math/bits.Add64"], apart := false, narrowed := true }
def PurseAllUptoSaid : Prop := purseAllUptoRow.holds Try.pinned (OpenSpec.upto purseAllSpec)

/-- 'bullionlaw21.SupplyParts', WHERE WHAT IT READS IS OF BULK AT MOST 1048576: true; the input reads as it did. -/
def supplyPartsUptoRow : OpenClaim := { program := "ytdjeedmiicagcaa", sum := "a10c8844eb007d0a512c06b8e383dce4e512887e11c42ce330586b850d24b6c5", func := "bullion/bullionlaw21.SupplyParts", spec := "supplyParts", inPlace := ["math/bits.Add64"], unfollowed := true, recurses := true, apart := false, narrowed := true }
def SupplyPartsUptoSaid : Prop := supplyPartsUptoRow.holds Try.pinned (OpenSpec.upto supplyPartsSpec)

/-- 'bullionlaw21.SupplyHolds', WHERE WHAT IT READS IS OF BULK AT MOST 1048576: true; the input reads as it did. -/
def supplyHoldsUptoRow : OpenClaim := { program := "ytdjeedmiicagcaa", sum := "a10c8844eb007d0a512c06b8e383dce4e512887e11c42ce330586b850d24b6c5", func := "bullion/bullionlaw21.SupplyHolds", spec := "supplyHolds", inPlace := ["math/bits.Add64", "math/bits.Sub64"], unfollowed := true, recurses := true, apart := false, narrowed := true }
def SupplyHoldsUptoSaid : Prop := supplyHoldsUptoRow.holds Try.pinned (OpenSpec.upto supplyHoldsSpec)

/-- 'bullionlaw18.PoolAdds', WHERE WHAT IT READS IS OF BULK AT MOST 1048576: true; the input reads as it did. -/
def poolAddsUptoRow : OpenClaim := { program := "ytdjeedmiicagcaa", sum := "a10c8844eb007d0a512c06b8e383dce4e512887e11c42ce330586b850d24b6c5", func := "bullion/bullionlaw18.PoolAdds", spec := "poolAdds", inPlace := ["math/bits.Add64", "slices.overlaps[bullion/api.Due]"], unfollowed := true, recurses := true, apart := false, narrowed := true }
def PoolAddsUptoSaid : Prop := poolAddsUptoRow.holds Try.pinned (OpenSpec.upto poolAddsSpec)

/-- 'bullionlaw18.PoolSums', WHERE WHAT IT READS IS OF BULK AT MOST 1048576: true; the input reads as it did. -/
def poolSumsUptoRow : OpenClaim := { program := "ytdjeedmiicagcaa", sum := "a10c8844eb007d0a512c06b8e383dce4e512887e11c42ce330586b850d24b6c5", func := "bullion/bullionlaw18.PoolSums", spec := "poolSums", inPlace := ["math/bits.Add64", "slices.overlaps[bullion/api.Due]"], unfollowed := true, recurses := true, apart := false, narrowed := true }
def PoolSumsUptoSaid : Prop := poolSumsUptoRow.holds Try.pinned (OpenSpec.upto poolSumsSpec)

/-- 'bullionlaw18.PoolKeeps', WHERE WHAT IT READS IS OF BULK AT MOST 1048576: true; the input reads as it did. -/
def poolKeepsUptoRow : OpenClaim := { program := "ytdjeedmiicagcaa", sum := "a10c8844eb007d0a512c06b8e383dce4e512887e11c42ce330586b850d24b6c5", func := "bullion/bullionlaw18.PoolKeeps", spec := "poolKeeps", inPlace := ["math/bits.Add64", "slices.overlaps[bullion/api.Due]"], unfollowed := true, recurses := true, apart := false, narrowed := true }
def PoolKeepsUptoSaid : Prop := poolKeepsUptoRow.holds Try.pinned (OpenSpec.upto poolKeepsSpec)

end Rows
end Go.Proofs.Ytdjeedmiicagcaa
