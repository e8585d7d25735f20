/- Short words. No conditions. -/
import Derived.Below
import Derived.Test.YtffbipddbnkdjaaGreatRows
set_option linter.all false
namespace Go.Proofs.YtffbipddbnkdjaaGreat
open Go.Proofs.Tryz
theorem hj{n:Nat}:n≤n:=Nat.le_refl n
theorem h6{n:Nat}:0≤n:=Nat.zero_le n
theorem hz{n:Nat}{w:World}:RowKit.Below n w w:=RowKit.Below.refl n w
theorem hM{n:Nat}{w:World}:RowKit.Below n w w.drew:=RowKit.Below.drew (RowKit.Below.refl n w)
theorem kY{a b:Prop}(x:a)(y:b):a∧b:=⟨x,y⟩
theorem iB{α:Type}{l:List α}{i:Nat}(h:i<l.length):l[i]?=some l[i]:=List.getElem?_eq_getElem h
theorem iJ{α:Type}{l:List α}{i:Nat}{d:α}:l.getD i d=(l[i]?).getD d:=List.getD_eq_getElem?_getD
theorem jh{α:Type}{l:List α}{i:Nat}{a:α}:l[i]?=some a↔∃h:i<l.length,l[i]=a:=List.getElem?_eq_some_iff
theorem HH{α:Type}{l:List α}{i:Nat}{a:α}(h:l[i]?=some a):a∈l:=List.mem_of_getElem? h
abbrev rW:=@underlying102
abbrev rO:=@underlying110
abbrev kj:=@underlying112
abbrev iZ:=@underlying166
abbrev pX:=@underlying217
abbrev ky:=@underlying22
abbrev lZ:=@underlying227
abbrev hQ:=@underlying24
abbrev kO:=@underlying25
abbrev np:=@underlying28
abbrev tx:=@underlying29
abbrev j9:=@underlying3
abbrev rM:=@underlying307
abbrev lF:=@underlying36
abbrev nL:=@underlying38
abbrev rC:=@underlying39
abbrev kv:=@underlying4
abbrev kB:=@underlying40
abbrev nV:=@underlying41
abbrev lT:=@underlying42
abbrev sG:=@underlying43
abbrev sH:=@underlying44
abbrev iX:=@underlying46
abbrev l6:=@underlying49
abbrev nF:=@underlying57
abbrev nE:=@underlying59
abbrev ja:=@underlying70
abbrev tt:=@underlying87
abbrev km:=@underlying96
abbrev jY:=@underlying98
end Go.Proofs.YtffbipddbnkdjaaGreat
