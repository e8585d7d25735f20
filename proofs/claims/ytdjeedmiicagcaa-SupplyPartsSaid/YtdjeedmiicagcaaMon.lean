/- Of a state, what the document goes by. No conditions. -/
import Derived.Test.YtdjeedmiicagcaaSup7
namespace Go.Proofs.Ytdjeedmiicagcaa.SupplyW
open Go.RowKit
open Go.Proofs.Ytdjeedmiicagcaa.Words Go.Proofs.Ytdjeedmiicagcaa.Agg Go.Proofs.Ytdjeedmiicagcaa.NatW Go.Proofs.Ytdjeedmiicagcaa.PurseW Go.Proofs.Ytdjeedmiicagcaa.PoolW

/-- of a state, what the document goes by -/
structure Mon where
  most : Nat
  gen : Nat
  mnt : Nat
  brn : Nat
  trs : Nat
  a1 : Option Addr
  n1 : Nat
  c1 : Nat
  l1 : List Nat
  a2 : Option Addr
  n2 : Nat
  c2 : Nat
  l2 : List Nat
  a3 : Option Addr
  n3 : Nat
  c3 : Nat
  l3 : List Nat
  a4 : Option Addr
  n4 : Nat
  c4 : Nat
  l4 : List Nat
def Mon.cs (m : Mon) : Array Value := #[.int .u64 m.most, .int .u64 m.gen, .int .u64 m.mnt, .int .u64 m.brn, .int .u64 m.trs, .slice m.a1 m.n1 m.c1, .slice m.a2 m.n2 m.c2, .slice m.a3 m.n3 m.c3, .slice m.a4 m.n4 m.c4]
structure Mon.At (m : Mon) (w : World) (L : Nat) : Prop where
  l1 : URow w L m.a1 m.n1 m.l1
  l2 : URow w L m.a2 m.n2 m.l2
  l3 : URow w L m.a3 m.n3 m.l3
  l4 : URow w L m.a4 m.n4 m.l4
structure Mon.Ok (m : Mon) : Prop where
  most : m.most < 18446744073709551616
  gen : m.gen < 18446744073709551616
  mnt : m.mnt < 18446744073709551616
  brn : m.brn < 18446744073709551616
  trs : m.trs < 18446744073709551616
  n1 : m.n1 ≤ 400
  n2 : m.n2 ≤ 400
  n3 : m.n3 ≤ 400
  n4 : m.n4 ≤ 400
theorem Mon.At.to {m : Mon} {w w' : World} (h : m.At w w.heap.size) (hb : Below w.heap.size w w') : m.At w' w'.heap.size := ⟨h.l1.to hb, h.l2.to hb, h.l3.to hb, h.l4.to hb⟩
end Go.Proofs.Ytdjeedmiicagcaa.SupplyW
