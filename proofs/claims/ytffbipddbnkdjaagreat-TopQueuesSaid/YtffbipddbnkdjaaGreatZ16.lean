/- What functions compute at any arguments, and plain facts: A deed that is read: fields; A deed that is read: Read; The deeds of bytes. Conditions: those that each theorem names. -/
import Derived.Test.YtffbipddbnkdjaaGreatZ15
set_option maxRecDepth 100000
set_option maxHeartbeats 40000000
set_option linter.all false
open Go Go.Proofs.Tryz
open Go.Value(int)
open Go.IntKind(i64 u64)
variable{A T:Option Addr}{n g b L k B i x a m j q c p s r d h u N y:Nat}{E z:Int}{P:Program}{w W X Z:World}{e t:TypeId}{f:Nat→Value}{l:List Bool}{V U:Value}{Y:List Nat}{S:List Value}{R:List Int}{Q:Array Value}{O:List (List Nat)}{M:Bool}{K:Ending}{J:Addr}{I:Nat→Nat}{H:Option Nat}
namespace Go.Proofs.YtffbipddbnkdjaaGreat
namespace hB
open RowKit
open hG hf
theorem DJ(B L g h q:Nat)(b:Sl)(bs:List Nat)(e a aj:Int)(d:DD)(w:World)(H:jA w B L g h q b bs e a aj d)(aE:d.k=5):
 Calls prog 207 #[.pointer (some ⟨h,0,none⟩),.pointer (some ⟨q,0,none⟩)] w fun r w'=>r= .returned (.tuple #[])∧∃(X Y ak:Int) (d':DD),jA w' B L g h q b bs X Y ak d'∧Fr g h q w w'∧ks d d':=by
 obtain⟨T,al⟩:=hg H (Fr.refl g h q w);go_enter func207,ntmps207;have aF:=T.hb.all;have aG:=T.qb.all;go_wp2_with fail;refine(oF L g b bs e a 1073741824 (by omega) w T.rd).mono ?_;rintro r U ⟨E,an,rfl,X,Y,ao,ae⟩;obtain⟨F,ap⟩:=hg (T.read ao ae) (al.trans (Fr.of ae (.inl rfl)));have aH:=F.qb.all;have aI:=F.qb.frozen 5;have Z:=(hn.refl q U).setCell (p:=⟨q,5,none⟩) (.inl rfl) (int i64 E);have z:(d:DD).Good (U.setCell ⟨q,5,none⟩ (int i64 E)):=F.gd.hT Z (fun o e=>by have:=F.na o e;have:=F.ne;omega);obtain⟨V,aq⟩:=hg (F.store (({d with ep:=E}:DD)) (show ha (U.setCell ⟨q,5,none⟩ (int i64 E)) q 70 _ from F.qb.set 5 (int i64 E)) Z ⟨z.ac,z.me,z.h8,z.am,an,z.mo,z.bo,z.bn,z.bits,z.ty⟩ F.na) (ap.trans (Fr.of Z (.inr (.inr (.inl rfl)))));have aJ:=V.hb.all;go_wp2_with fail;refine(Dv L g b bs X Y 32 (by omega) (U.setCell ⟨q,5,none⟩ (int i64 E)) V.rd).mono ?_;rintro r K ⟨aK,rfl,⟨G,I,J⟩,af,rfl,aa,ag,ab,W,aL,aM,ar,ah⟩;obtain⟨D,au⟩:=hg (V.read ar ah) (aq.trans (Fr.of ah (.inl rfl)));obtain⟨s6,O⟩:∃s:Sl,s=⟨G,I,J⟩:=⟨_,rfl⟩;rw[show(⟨G,I,J⟩:Sl)=s6 from O.symm]at ag;have aa:(s6.n:Int)≤32:=by rw[O];exact aa
 have av:∀o,s6.A=some o→∃ad,K.heap[o.block]?=some (.cells ad 5 (0,0)):=by rw[O];exact fun o e=>(W o e).2
 have aw:=g' av;have W:∀o,s6.A=some o→B≤o.block:=by rw[O];exact fun o e=>Nat.le_trans V.ne.2.2.2.2.2.2.2.2 (W o e).1
 have ab:hq.ie K K.heap.size s6.A s6.n af:=by rw[O];exact ab
 have ax:=g' (show s6.v= .slice G I J by rw[O];rfl);simp only[Sl.v];obtain⟨R,ay⟩:=hg (show(s6.n:Int)≤32∧s6.Ok∧(∀o,s6.A=some o→B≤o.block)from⟨aa,ag,W⟩) ab;have aN:=D.qb.all;have aO:=D.qb.frozen 6;have S:=(hn.refl q K).setCell (p:=⟨q,6,none⟩) (.inl rfl) (.slice G I J);have Q:(({d with ep:=E}:DD):DD).Good (K.setCell ⟨q,6,none⟩ (.slice G I J)):=D.gd.hT S (fun o e=>by have:=D.na o e;have:=D.ne;omega);obtain⟨az,aA⟩:=hg (D.store (({({d with ep:=E}:DD)with bi:=s6}:DD)) (show ha (K.setCell ⟨q,6,none⟩ (.slice G I J)) q 70 _ from by have aB:=ax;show ha _ _ _ (DD.cs _);unfold DD.cs;simp only;rw[aB];exact D.qb.set 6 (.slice G I J)) S ⟨Q.ac,Q.me,Q.h8,Q.am,Q.ep,Q.mo,R.2.1,(by have:=R.1;simp only;omega),⟨af,x6 ay S (fun o e=>by have aC:=R.2.2 o e;have aD:=D.ne;omega)⟩,fun o e=>by obtain⟨ad,ai⟩:=aw o e;exact⟨ad,(S.block _ (Array.getElem?_eq_some_iff.1 ai).1 (by have aC:=R.2.2 o e;have aD:=D.ne;omega)).trans ai⟩⟩ (R.2.2)) (au.trans (Fr.of S (.inr (.inr (.inl rfl)))));go_wp2;first|go_end0|((try simp only[Exit.inBlock,Exit.then]);refine bodyPost_ret (results_none rfl _ _ _) rfl ?_)
 exact⟨rfl,_,_,_,_,az,aA,ks.else rfl (by omega)⟩
theorem DK(B L g h q:Nat)(b:Sl)(bs:List Nat)(e a I:Int)(d:DD)(w:World)(H:jA w B L g h q b bs e a I d)(ad:d.k=1):
 Calls prog 207 #[.pointer (some ⟨h,0,none⟩),.pointer (some ⟨q,0,none⟩)] w fun r w'=>r= .returned (.tuple #[])∧∃(ae af aA:Int) (d':DD),jA w' B L g h q b bs ae af aA d'∧Fr g h q w w'∧ks d d':=by
 obtain⟨S,aB⟩:=hg H (Fr.refl g h q w);clear H;go_enter func207,ntmps207;have aT:=S.qb.all;go_wp2_with fail;refine(pw L g h b bs e a I w S.rd S.hb).mono ?_;rintro r T ⟨D,aC,aD,rfl,ae,af,ap,ag⟩;obtain⟨E,aE⟩:=hg (S.read ap ag) (aB.trans (Fr.of ag (.inl rfl)));clear ap ag;have aU:=E.qb.all;have aV:=E.qb.frozen 1;have U:=(hn.refl q T).setCell (p:=⟨q,1,none⟩) (.inl rfl) (int i64 D);have o:(d:DD).Good (T.setCell ⟨q,1,none⟩ (int i64 D)):=E.gd.hT U (fun O e=>by have:=E.na O e;have:=E.ne;omega);obtain⟨V,aF⟩:=hg (E.store (({d with ac:=D}:DD)) (show ha (T.setCell ⟨q,1,none⟩ (int i64 D)) q 70 _ from E.qb.set 1 (int i64 D)) U ⟨⟨aC,aD⟩,o.me,o.h8,o.am,o.ep,o.mo,o.bo,o.bn,o.bits,o.ty⟩ E.na) (aE.trans (Fr.of U (.inr (.inr (.inl rfl)))));clear U o;have aW:=V.qb.all;go_wp2_with fail;refine(pw L g h b bs ae af I (T.setCell ⟨q,1,none⟩ (int i64 D)) V.rd V.hb).mono ?_;rintro r W ⟨K,aG,aH,rfl,X,ah,aq,ai⟩;obtain⟨F,aI⟩:=hg (V.read aq ai) (aF.trans (Fr.of ai (.inl rfl)));clear aq ai;have aX:=F.qb.all;have aY:=F.qb.frozen 3;have Y:=(hn.refl q W).setCell (p:=⟨q,3,none⟩) (.inl rfl) (int i64 K);have z:(({d with ac:=D}:DD):DD).Good (W.setCell ⟨q,3,none⟩ (int i64 K)):=F.gd.hT Y (fun O e=>by have:=F.na O e;have:=F.ne;omega);obtain⟨aJ,ar⟩:=hg (F.store (({({d with ac:=D}:DD)with h8:=K}:DD)) (show ha (W.setCell ⟨q,3,none⟩ (int i64 K)) q 70 _ from F.qb.set 3 (int i64 K)) Y ⟨z.ac,z.me,⟨aG,aH⟩,z.am,z.ep,z.mo,z.bo,z.bn,z.bits,z.ty⟩ F.na) (aI.trans (Fr.of Y (.inr (.inr (.inl rfl)))));clear Y z;obtain⟨aj,au,ad⟩:∃av:DD,jA (W.setCell ⟨q,3,none⟩ (int i64 K)) B L g h q b bs X ah I av∧ks d av:=⟨_,aJ,ks.else rfl (by omega)⟩;obtain⟨Q,ak⟩:=hg au ad;clear au ad;obtain⟨aw,al⟩:=hk (I==0&&X==0);go_wp2_with fail;refine(pv g h b X ah I _ Q.rd.h2 Q.hb aw al).mono ?_;rintro r w' ⟨rfl,rfl⟩;have aZ:=g' al;clear al;cases aw
 ·go_wp2
  first|go_end0|((try simp only[Exit.inBlock,Exit.then]);refine bodyPost_ret (results_none rfl _ _ _) rfl ?_)
  exact⟨rfl,_,_,_,_,Q,ar,ak⟩
 go_wp2_with (refine iv Q.qb ja (jo _) rfl rfl rfl rfl ?_);refine(p3 aj _).mono ?_;rintro r aK ⟨aL,rfl,J⟩;obtain⟨Z,ax⟩:=hg (Q.below J) (ar.trans (Fr.of (hn.jJ (g:=g) J) (.inl rfl)));clear J;cases aL
 ·go_wp2
  first|go_end0|((try simp only[Exit.inBlock,Exit.then]);refine bodyPost_ret (results_none rfl _ _ _) rfl ?_)
  exact⟨rfl,_,_,_,_,Z,ax,ak⟩
 have a0:=Z.hb.all;go_wp2_with fail;refine(oE L g b bs X ah 4611686018427387904 aK Z.rd).mono ?_;rintro r an ⟨R,aM,rfl,aN,aO,ay,ao⟩;obtain⟨G,aP⟩:=hg (Z.read ay ao) (ax.trans (Fr.of ao (.inl rfl)));clear ay ao;have a1:=G.qb.all;have a2:=G.qb.frozen 4;have aa:=(hn.refl q an).setCell (p:=⟨q,4,none⟩) (.inl rfl) (int u64 R);have A:(aj:DD).Good (an.setCell ⟨q,4,none⟩ (int u64 R)):=G.gd.hT aa (fun O e=>by have:=G.na O e;have:=G.ne;omega);obtain⟨ab,aQ⟩:=hg (G.store (({aj with am:=R}:DD)) (show ha (an.setCell ⟨q,4,none⟩ (int u64 R)) q 70 _ from G.qb.set 4 (int u64 R)) aa ⟨A.ac,A.me,A.h8,aM,A.ep,A.mo,A.bo,A.bn,A.bits,A.ty⟩ G.na) (aP.trans (Fr.of aa (.inr (.inr (.inl rfl)))));clear aa A;have a3:=ab.qb.all;go_wp2_with fail;refine(oI g h b aN aO I 80 _ _ ab.rd.h2 ab.hb).mono ?_;rintro r a4 ⟨rfl,az,J⟩;obtain⟨aR,aS⟩:=hg (ab.oH az J) (aQ.trans (Fr.of J (.inr (.inl rfl))));clear az J;go_wp2;first|go_end0|((try simp only[Exit.inBlock,Exit.then]);refine bodyPost_ret (results_none rfl _ _ _) rfl ?_)
 exact⟨rfl,_,_,_,_,aR,aS,ak⟩
theorem DL(B L g h q:Nat)(b:Sl)(bs:List Nat)(e a I:Int)(d:DD)(w:World)(H:jA w B L g h q b bs e a I d)(ad:d.k=3):
 Calls prog 207 #[.pointer (some ⟨h,0,none⟩),.pointer (some ⟨q,0,none⟩)] w fun r w'=>r= .returned (.tuple #[])∧∃(ae af aA:Int) (d':DD),jA w' B L g h q b bs ae af aA d'∧Fr g h q w w'∧ks d d':=by
 obtain⟨S,aB⟩:=hg H (Fr.refl g h q w);clear H;go_enter func207,ntmps207;have aT:=S.qb.all;go_wp2_with fail;refine(pw L g h b bs e a I w S.rd S.hb).mono ?_;rintro r T ⟨D,aC,aD,rfl,ae,af,ap,ag⟩;obtain⟨E,aE⟩:=hg (S.read ap ag) (aB.trans (Fr.of ag (.inl rfl)));clear ap ag;have aU:=E.qb.all;have aV:=E.qb.frozen 1;have U:=(hn.refl q T).setCell (p:=⟨q,1,none⟩) (.inl rfl) (int i64 D);have o:(d:DD).Good (T.setCell ⟨q,1,none⟩ (int i64 D)):=E.gd.hT U (fun O e=>by have:=E.na O e;have:=E.ne;omega);obtain⟨V,aF⟩:=hg (E.store (({d with ac:=D}:DD)) (show ha (T.setCell ⟨q,1,none⟩ (int i64 D)) q 70 _ from E.qb.set 1 (int i64 D)) U ⟨⟨aC,aD⟩,o.me,o.h8,o.am,o.ep,o.mo,o.bo,o.bn,o.bits,o.ty⟩ E.na) (aE.trans (Fr.of U (.inr (.inr (.inl rfl)))));clear U o;have aW:=V.qb.all;go_wp2_with fail;refine(uG L g h b bs ae af I (T.setCell ⟨q,1,none⟩ (int i64 D)) V.rd V.hb).mono ?_;rintro r W ⟨K,aG,aH,rfl,X,ah,aq,ai⟩;obtain⟨F,aI⟩:=hg (V.read aq ai) (aF.trans (Fr.of ai (.inl rfl)));clear aq ai;have aX:=F.qb.all;have aY:=F.qb.frozen 2;have Y:=(hn.refl q W).setCell (p:=⟨q,2,none⟩) (.inl rfl) (int i64 K);have z:(({d with ac:=D}:DD):DD).Good (W.setCell ⟨q,2,none⟩ (int i64 K)):=F.gd.hT Y (fun O e=>by have:=F.na O e;have:=F.ne;omega);obtain⟨aJ,ar⟩:=hg (F.store (({({d with ac:=D}:DD)with me:=K}:DD)) (show ha (W.setCell ⟨q,2,none⟩ (int i64 K)) q 70 _ from F.qb.set 2 (int i64 K)) Y ⟨z.ac,⟨aG,aH⟩,z.h8,z.am,z.ep,z.mo,z.bo,z.bn,z.bits,z.ty⟩ F.na) (aI.trans (Fr.of Y (.inr (.inr (.inl rfl)))));clear Y z;obtain⟨aj,au,ad⟩:∃av:DD,jA (W.setCell ⟨q,2,none⟩ (int i64 K)) B L g h q b bs X ah I av∧ks d av:=⟨_,aJ,ks.else rfl (by omega)⟩;obtain⟨Q,ak⟩:=hg au ad;clear au ad;obtain⟨aw,al⟩:=hk (I==0&&X==0);go_wp2_with fail;refine(pv g h b X ah I _ Q.rd.h2 Q.hb aw al).mono ?_;rintro r w' ⟨rfl,rfl⟩;have aZ:=g' al;clear al;cases aw
 ·go_wp2
  first|go_end0|((try simp only[Exit.inBlock,Exit.then]);refine bodyPost_ret (results_none rfl _ _ _) rfl ?_)
  exact⟨rfl,_,_,_,_,Q,ar,ak⟩
 go_wp2_with (refine iv Q.qb ja (jo _) rfl rfl rfl rfl ?_);refine(p3 aj _).mono ?_;rintro r aK ⟨aL,rfl,J⟩;obtain⟨Z,ax⟩:=hg (Q.below J) (ar.trans (Fr.of (hn.jJ (g:=g) J) (.inl rfl)));clear J;cases aL
 ·go_wp2
  first|go_end0|((try simp only[Exit.inBlock,Exit.then]);refine bodyPost_ret (results_none rfl _ _ _) rfl ?_)
  exact⟨rfl,_,_,_,_,Z,ax,ak⟩
 have a0:=Z.hb.all;go_wp2_with fail;refine(oE L g b bs X ah 4611686018427387904 aK Z.rd).mono ?_;rintro r an ⟨R,aM,rfl,aN,aO,ay,ao⟩;obtain⟨G,aP⟩:=hg (Z.read ay ao) (ax.trans (Fr.of ao (.inl rfl)));clear ay ao;have a1:=G.qb.all;have a2:=G.qb.frozen 4;have aa:=(hn.refl q an).setCell (p:=⟨q,4,none⟩) (.inl rfl) (int u64 R);have A:(aj:DD).Good (an.setCell ⟨q,4,none⟩ (int u64 R)):=G.gd.hT aa (fun O e=>by have:=G.na O e;have:=G.ne;omega);obtain⟨ab,aQ⟩:=hg (G.store (({aj with am:=R}:DD)) (show ha (an.setCell ⟨q,4,none⟩ (int u64 R)) q 70 _ from G.qb.set 4 (int u64 R)) aa ⟨A.ac,A.me,A.h8,aM,A.ep,A.mo,A.bo,A.bn,A.bits,A.ty⟩ G.na) (aP.trans (Fr.of aa (.inr (.inr (.inl rfl)))));clear aa A;have a3:=ab.qb.all;go_wp2_with fail;refine(oI g h b aN aO I 80 _ _ ab.rd.h2 ab.hb).mono ?_;rintro r a4 ⟨rfl,az,J⟩;obtain⟨aR,aS⟩:=hg (ab.oH az J) (aQ.trans (Fr.of J (.inr (.inl rfl))));clear az J;go_wp2;first|go_end0|((try simp only[Exit.inBlock,Exit.then]);refine bodyPost_ret (results_none rfl _ _ _) rfl ?_)
 exact⟨rfl,_,_,_,_,aR,aS,ak⟩
theorem DM(B L g h q:Nat)(b:Sl)(bs:List Nat)(e a I:Int)(d:DD)(w:World)(H:jA w B L g h q b bs e a I d)(ad:d.k=4):
 Calls prog 207 #[.pointer (some ⟨h,0,none⟩),.pointer (some ⟨q,0,none⟩)] w fun r w'=>r= .returned (.tuple #[])∧∃(ae af aA:Int) (d':DD),jA w' B L g h q b bs ae af aA d'∧Fr g h q w w'∧ks d d':=by
 obtain⟨S,aB⟩:=hg H (Fr.refl g h q w);clear H;go_enter func207,ntmps207;have aT:=S.qb.all;go_wp2_with fail;refine(pw L g h b bs e a I w S.rd S.hb).mono ?_;rintro r T ⟨D,aC,aD,rfl,ae,af,ap,ag⟩;obtain⟨E,aE⟩:=hg (S.read ap ag) (aB.trans (Fr.of ag (.inl rfl)));clear ap ag;have aU:=E.qb.all;have aV:=E.qb.frozen 1;have U:=(hn.refl q T).setCell (p:=⟨q,1,none⟩) (.inl rfl) (int i64 D);have o:(d:DD).Good (T.setCell ⟨q,1,none⟩ (int i64 D)):=E.gd.hT U (fun O e=>by have:=E.na O e;have:=E.ne;omega);obtain⟨V,aF⟩:=hg (E.store (({d with ac:=D}:DD)) (show ha (T.setCell ⟨q,1,none⟩ (int i64 D)) q 70 _ from E.qb.set 1 (int i64 D)) U ⟨⟨aC,aD⟩,o.me,o.h8,o.am,o.ep,o.mo,o.bo,o.bn,o.bits,o.ty⟩ E.na) (aE.trans (Fr.of U (.inr (.inr (.inl rfl)))));clear U o;have aW:=V.qb.all;go_wp2_with fail;refine(uG L g h b bs ae af I (T.setCell ⟨q,1,none⟩ (int i64 D)) V.rd V.hb).mono ?_;rintro r W ⟨K,aG,aH,rfl,X,ah,aq,ai⟩;obtain⟨F,aI⟩:=hg (V.read aq ai) (aF.trans (Fr.of ai (.inl rfl)));clear aq ai;have aX:=F.qb.all;have aY:=F.qb.frozen 2;have Y:=(hn.refl q W).setCell (p:=⟨q,2,none⟩) (.inl rfl) (int i64 K);have z:(({d with ac:=D}:DD):DD).Good (W.setCell ⟨q,2,none⟩ (int i64 K)):=F.gd.hT Y (fun O e=>by have:=F.na O e;have:=F.ne;omega);obtain⟨aJ,ar⟩:=hg (F.store (({({d with ac:=D}:DD)with me:=K}:DD)) (show ha (W.setCell ⟨q,2,none⟩ (int i64 K)) q 70 _ from F.qb.set 2 (int i64 K)) Y ⟨z.ac,⟨aG,aH⟩,z.h8,z.am,z.ep,z.mo,z.bo,z.bn,z.bits,z.ty⟩ F.na) (aI.trans (Fr.of Y (.inr (.inr (.inl rfl)))));clear Y z;obtain⟨aj,au,ad⟩:∃av:DD,jA (W.setCell ⟨q,2,none⟩ (int i64 K)) B L g h q b bs X ah I av∧ks d av:=⟨_,aJ,ks.else rfl (by omega)⟩;obtain⟨Q,ak⟩:=hg au ad;clear au ad;obtain⟨aw,al⟩:=hk (I==0&&X==0);go_wp2_with fail;refine(pv g h b X ah I _ Q.rd.h2 Q.hb aw al).mono ?_;rintro r w' ⟨rfl,rfl⟩;have aZ:=g' al;clear al;cases aw
 ·go_wp2
  first|go_end0|((try simp only[Exit.inBlock,Exit.then]);refine bodyPost_ret (results_none rfl _ _ _) rfl ?_)
  exact⟨rfl,_,_,_,_,Q,ar,ak⟩
 go_wp2_with (refine iv Q.qb ja (jo _) rfl rfl rfl rfl ?_);refine(p3 aj _).mono ?_;rintro r aK ⟨aL,rfl,J⟩;obtain⟨Z,ax⟩:=hg (Q.below J) (ar.trans (Fr.of (hn.jJ (g:=g) J) (.inl rfl)));clear J;cases aL
 ·go_wp2
  first|go_end0|((try simp only[Exit.inBlock,Exit.then]);refine bodyPost_ret (results_none rfl _ _ _) rfl ?_)
  exact⟨rfl,_,_,_,_,Z,ax,ak⟩
 have a0:=Z.hb.all;go_wp2_with fail;refine(oE L g b bs X ah 4611686018427387904 aK Z.rd).mono ?_;rintro r an ⟨R,aM,rfl,aN,aO,ay,ao⟩;obtain⟨G,aP⟩:=hg (Z.read ay ao) (ax.trans (Fr.of ao (.inl rfl)));clear ay ao;have a1:=G.qb.all;have a2:=G.qb.frozen 4;have aa:=(hn.refl q an).setCell (p:=⟨q,4,none⟩) (.inl rfl) (int u64 R);have A:(aj:DD).Good (an.setCell ⟨q,4,none⟩ (int u64 R)):=G.gd.hT aa (fun O e=>by have:=G.na O e;have:=G.ne;omega);obtain⟨ab,aQ⟩:=hg (G.store (({aj with am:=R}:DD)) (show ha (an.setCell ⟨q,4,none⟩ (int u64 R)) q 70 _ from G.qb.set 4 (int u64 R)) aa ⟨A.ac,A.me,A.h8,aM,A.ep,A.mo,A.bo,A.bn,A.bits,A.ty⟩ G.na) (aP.trans (Fr.of aa (.inr (.inr (.inl rfl)))));clear aa A;have a3:=ab.qb.all;go_wp2_with fail;refine(oI g h b aN aO I 80 _ _ ab.rd.h2 ab.hb).mono ?_;rintro r a4 ⟨rfl,az,J⟩;obtain⟨aR,aS⟩:=hg (ab.oH az J) (aQ.trans (Fr.of J (.inr (.inl rfl))));clear az J;go_wp2;first|go_end0|((try simp only[Exit.inBlock,Exit.then]);refine bodyPost_ret (results_none rfl _ _ _) rfl ?_)
 exact⟨rfl,_,_,_,_,aR,aS,ak⟩
theorem DN(B L g h q:Nat)(b:Sl)(bs:List Nat)(e a X:Int)(d:DD)(w:World)(H:jA w B L g h q b bs e a X d)(E:d.k=6):
 Calls prog 207 #[.pointer (some ⟨h,0,none⟩),.pointer (some ⟨q,0,none⟩)] w fun r w'=>r= .returned (.tuple #[])∧∃(Y Z av:Int) (d':DD),jA w' B L g h q b bs Y Z av d'∧Fr g h q w w'∧ks d d':=by
 obtain⟨O,aw⟩:=hg H (Fr.refl g h q w);clear H;go_enter func207,ntmps207;have aO:=O.qb.all;go_wp2_with fail;refine(pw L g h b bs e a X w O.rd O.hb).mono ?_;rintro r Q ⟨F,ax,ay,rfl,Y,Z,aj,aa⟩;obtain⟨A,az⟩:=hg (O.read aj aa) (aw.trans (Fr.of aa (.inl rfl)));clear aj aa;have aP:=A.qb.all;have aQ:=A.qb.frozen 1;have R:=(hn.refl q Q).setCell (p:=⟨q,1,none⟩) (.inl rfl) (int i64 F);have o:(d:DD).Good (Q.setCell ⟨q,1,none⟩ (int i64 F)):=A.gd.hT R (fun ab e=>by have:=A.na ab e;have:=A.ne;omega);obtain⟨ak,aA⟩:=hg (A.store (({d with ac:=F}:DD)) (show ha (Q.setCell ⟨q,1,none⟩ (int i64 F)) q 70 _ from A.qb.set 1 (int i64 F)) R ⟨⟨ax,ay⟩,o.me,o.h8,o.am,o.ep,o.mo,o.bo,o.bn,o.bits,o.ty⟩ A.na) (az.trans (Fr.of R (.inr (.inr (.inl rfl)))));clear R o;have aR:=ak.qb.all;go_wp2_with fail;refine(DH B L g h q b bs Y Z X ({d with ac:=F}:DD) (Q.setCell ⟨q,1,none⟩ (int i64 F)) ak).mono ?_;rintro r aB ⟨rfl,S,ad,T,aC,I,al,E⟩;obtain⟨aD,an,aE⟩:=hs I (aA.trans al) (show ks d aC from⟨E.1,fun e=>E.2 e⟩);clear I al E;obtain⟨ae,I,E⟩:∃ao:DD,jA aB B L g h q b bs S ad T ao∧ks d ao:=⟨_,aD,aE⟩;obtain⟨J,af⟩:=hg I E;clear I E;obtain⟨ap,ag⟩:=hk (T==0&&S==0);go_wp2_with fail;refine(pv g h b S ad T _ J.rd.h2 J.hb ap ag).mono ?_;rintro r w' ⟨rfl,rfl⟩;have aS:=g' ag;clear ag;cases ap
 ·go_wp2
  first|go_end0|((try simp only[Exit.inBlock,Exit.then]);refine bodyPost_ret (results_none rfl _ _ _) rfl ?_)
  exact⟨rfl,_,_,_,_,J,an,af⟩
 go_wp2_with (refine iv J.qb ja (jo _) rfl rfl rfl rfl ?_);refine(p3 ae _).mono ?_;rintro r aF ⟨aG,rfl,G⟩;obtain⟨U,aq⟩:=hg (J.below G) (an.trans (Fr.of (hn.jJ (g:=g) G) (.inl rfl)));clear G;cases aG
 ·go_wp2
  first|go_end0|((try simp only[Exit.inBlock,Exit.then]);refine bodyPost_ret (results_none rfl _ _ _) rfl ?_)
  exact⟨rfl,_,_,_,_,U,aq,af⟩
 have aT:=U.hb.all;go_wp2_with fail;refine(oE L g b bs S ad 4611686018427387904 aF U.rd).mono ?_;rintro r ah ⟨K,aH,rfl,aI,aJ,ar,ai⟩;obtain⟨D,aK⟩:=hg (U.read ar ai) (aq.trans (Fr.of ai (.inl rfl)));clear ar ai;have aU:=D.qb.all;have aV:=D.qb.frozen 4;have V:=(hn.refl q ah).setCell (p:=⟨q,4,none⟩) (.inl rfl) (int u64 K);have z:(ae:DD).Good (ah.setCell ⟨q,4,none⟩ (int u64 K)):=D.gd.hT V (fun ab e=>by have:=D.na ab e;have:=D.ne;omega);obtain⟨W,aL⟩:=hg (D.store (({ae with am:=K}:DD)) (show ha (ah.setCell ⟨q,4,none⟩ (int u64 K)) q 70 _ from D.qb.set 4 (int u64 K)) V ⟨z.ac,z.me,z.h8,aH,z.ep,z.mo,z.bo,z.bn,z.bits,z.ty⟩ D.na) (aK.trans (Fr.of V (.inr (.inr (.inl rfl)))));clear V z;have aW:=W.qb.all;go_wp2_with fail;refine(oI g h b aI aJ T 80 _ _ W.rd.h2 W.hb).mono ?_;rintro r aX ⟨rfl,au,G⟩;obtain⟨aM,aN⟩:=hg (W.oH au G) (aL.trans (Fr.of G (.inr (.inl rfl))));clear au G;go_wp2;first|go_end0|((try simp only[Exit.inBlock,Exit.then]);refine bodyPost_ret (results_none rfl _ _ _) rfl ?_)
 exact⟨rfl,_,_,_,_,aM,aN,af⟩
theorem DO(B L g h q:Nat)(b:Sl)(bs:List Nat)(e a T:Int)(d:DD)(w:World)(H:jA w B L g h q b bs e a T d)(ao:d.k=7):
 Calls prog 207 #[.pointer (some ⟨h,0,none⟩),.pointer (some ⟨q,0,none⟩)] w fun r w'=>r= .returned (.tuple #[])∧∃(ap aq aQ:Int) (d':DD),jA w' B L g h q b bs ap aq aQ d'∧Fr g h q w w'∧ks d d':=by
 obtain⟨Y,aR⟩:=hg H (Fr.refl g h q w);clear H;go_enter func207,ntmps207;have bh:=Y.qb.all;go_wp2_with fail;refine(pw L g h b bs e a T w Y.rd Y.hb).mono ?_;rintro r Z ⟨o,aS,aT,rfl,ap,aq,aF,ar⟩;obtain⟨J,aU⟩:=hg (Y.read aF ar) (aR.trans (Fr.of ar (.inl rfl)));clear aF ar;have bi:=J.qb.all;have bj:=J.qb.frozen 1;have aa:=(hn.refl q Z).setCell (p:=⟨q,1,none⟩) (.inl rfl) (int i64 o);have A:(d:DD).Good (Z.setCell ⟨q,1,none⟩ (int i64 o)):=J.gd.hT aa (fun I e=>by have:=J.na I e;have:=J.ne;omega);obtain⟨ab,aV⟩:=hg (J.store (({d with ac:=o}:DD)) (show ha (Z.setCell ⟨q,1,none⟩ (int i64 o)) q 70 _ from J.qb.set 1 (int i64 o)) aa ⟨⟨aS,aT⟩,A.me,A.h8,A.am,A.ep,A.mo,A.bo,A.bn,A.bits,A.ty⟩ J.na) (aU.trans (Fr.of aa (.inr (.inr (.inl rfl)))));clear aa A;have bk:=ab.qb.all;go_wp2_with fail;refine(uG L g h b bs ap aq T (Z.setCell ⟨q,1,none⟩ (int i64 o)) ab.rd ab.hb).mono ?_;rintro r ad ⟨D,aW,aX,rfl,aY,aZ,aG,au⟩;obtain⟨K,a0⟩:=hg (ab.read aG au) (aV.trans (Fr.of au (.inl rfl)));clear aG au;have bl:=K.qb.all;have bm:=K.qb.frozen 2;have ae:=(hn.refl q ad).setCell (p:=⟨q,2,none⟩) (.inl rfl) (int i64 D);have E:(({d with ac:=o}:DD):DD).Good (ad.setCell ⟨q,2,none⟩ (int i64 D)):=K.gd.hT ae (fun I e=>by have:=K.na I e;have:=K.ne;omega);obtain⟨av,a1⟩:=hg (K.store (({({d with ac:=o}:DD)with me:=D}:DD)) (show ha (ad.setCell ⟨q,2,none⟩ (int i64 D)) q 70 _ from K.qb.set 2 (int i64 D)) ae ⟨E.ac,⟨aW,aX⟩,E.h8,E.am,E.ep,E.mo,E.bo,E.bn,E.bits,E.ty⟩ K.na) (a0.trans (Fr.of ae (.inr (.inr (.inl rfl)))));clear ae E;have bp:=av.hb.all;go_wp2_with fail;refine(oF L g b bs aY aZ 31 (by omega) (ad.setCell ⟨q,2,none⟩ (int i64 D)) av.rd).mono ?_;rintro r af ⟨O,a2,rfl,a3,a4,aH,aw⟩;obtain⟨Q,a5⟩:=hg (av.read aH aw) (a1.trans (Fr.of aw (.inl rfl)));clear aH aw;have bq:=Q.qb.all;have br:=Q.qb.frozen 32;have ag:=(hn.refl q af).setCell (p:=⟨q,32,none⟩) (.inl rfl) (int i64 O);have F:(({({d with ac:=o}:DD)with me:=D}:DD):DD).Good (af.setCell ⟨q,32,none⟩ (int i64 O)):=Q.gd.hT ag (fun I e=>by have:=Q.na I e;have:=Q.ne;omega);obtain⟨ax,a6⟩:=hg (Q.store (({({({d with ac:=o}:DD)with me:=D}:DD)with mo:=O}:DD)) (show ha (af.setCell ⟨q,32,none⟩ (int i64 O)) q 70 _ from Q.qb.set 32 (int i64 O)) ag ⟨F.ac,F.me,F.h8,F.am,F.ep,a2,F.bo,F.bn,F.bits,F.ty⟩ Q.na) (a5.trans (Fr.of ag (.inr (.inr (.inl rfl)))));clear ag F;have bt:=ax.hb.all;go_wp2_with fail;refine(Dq L g b bs a3 a4 (af.setCell ⟨q,32,none⟩ (int i64 O)) ax.rd).mono ?_;rintro r ah ⟨V,rfl,ai,ay,aI,az⟩;obtain⟨R,a7⟩:=hg (ax.read aI az) (a6.trans (Fr.of az (.inl rfl)));clear aI az;have bu:=R.qb.all;have bv:=R.qb.frozen 33;have aj:=(hn.refl q ah).setCell (p:=⟨q,33,none⟩) (.inl rfl) (.bool V);have z:(({({({d with ac:=o}:DD)with me:=D}:DD)with mo:=O}:DD):DD).Good (ah.setCell ⟨q,33,none⟩ (.bool V)):=R.gd.hT aj (fun I e=>by have:=R.na I e;have:=R.ne;omega);obtain⟨a8,aJ⟩:=hg (R.store (({({({({d with ac:=o}:DD)with me:=D}:DD)with mo:=O}:DD)with ye:=V}:DD)) (show ha (ah.setCell ⟨q,33,none⟩ (.bool V)) q 70 _ from R.qb.set 33 (.bool V)) aj ⟨z.ac,z.me,z.h8,z.am,z.ep,z.mo,z.bo,z.bn,z.bits,z.ty⟩ R.na) (a7.trans (Fr.of aj (.inr (.inr (.inl rfl)))));clear aj z;obtain⟨aA,aK,ao⟩:∃aL:DD,jA (ah.setCell ⟨q,33,none⟩ (.bool V)) B L g h q b bs ai ay T aL∧ks d aL:=⟨_,a8,ks.else rfl (by omega)⟩;obtain⟨W,aB⟩:=hg aK ao;clear aK ao;obtain⟨aM,aC⟩:=hk (T==0&&ai==0);go_wp2_with fail;refine(pv g h b ai ay T _ W.rd.h2 W.hb aM aC).mono ?_;rintro r w' ⟨rfl,rfl⟩;have bw:=g' aC;clear aC;cases aM
 ·go_wp2
  first|go_end0|((try simp only[Exit.inBlock,Exit.then]);refine bodyPost_ret (results_none rfl _ _ _) rfl ?_)
  exact⟨rfl,_,_,_,_,W,aJ,aB⟩
 go_wp2_with (refine iv W.qb ja (jo _) rfl rfl rfl rfl ?_);refine(p3 aA _).mono ?_;rintro r a9 ⟨a',rfl,U⟩;obtain⟨ak,aN⟩:=hg (W.below U) (aJ.trans (Fr.of (hn.jJ (g:=g) U) (.inl rfl)));clear U;cases a'
 ·go_wp2
  first|go_end0|((try simp only[Exit.inBlock,Exit.then]);refine bodyPost_ret (results_none rfl _ _ _) rfl ?_)
  exact⟨rfl,_,_,_,_,ak,aN,aB⟩
 have bx:=ak.hb.all;go_wp2_with fail;refine(oE L g b bs ai ay 4611686018427387904 a9 ak.rd).mono ?_;rintro r aD ⟨X,ba,rfl,bb,bc,aO,aE⟩;obtain⟨S,bd⟩:=hg (ak.read aO aE) (aN.trans (Fr.of aE (.inl rfl)));clear aO aE;have bz:=S.qb.all;have bA:=S.qb.frozen 4;have al:=(hn.refl q aD).setCell (p:=⟨q,4,none⟩) (.inl rfl) (int u64 X);have G:(aA:DD).Good (aD.setCell ⟨q,4,none⟩ (int u64 X)):=S.gd.hT al (fun I e=>by have:=S.na I e;have:=S.ne;omega);obtain⟨an,be⟩:=hg (S.store (({aA with am:=X}:DD)) (show ha (aD.setCell ⟨q,4,none⟩ (int u64 X)) q 70 _ from S.qb.set 4 (int u64 X)) al ⟨G.ac,G.me,G.h8,ba,G.ep,G.mo,G.bo,G.bn,G.bits,G.ty⟩ S.na) (bd.trans (Fr.of al (.inr (.inr (.inl rfl)))));clear al G;have bB:=an.qb.all;go_wp2_with fail;refine(oI g h b bb bc T 80 _ _ an.rd.h2 an.hb).mono ?_;rintro r bC ⟨rfl,aP,U⟩;obtain⟨bf,bg⟩:=hg (an.oH aP U) (be.trans (Fr.of U (.inr (.inl rfl))));clear aP U;go_wp2;first|go_end0|((try simp only[Exit.inBlock,Exit.then]);refine bodyPost_ret (results_none rfl _ _ _) rfl ?_)
 exact⟨rfl,_,_,_,_,bf,bg,aB⟩
theorem DP(B L g h q:Nat)(b:Sl)(bs:List Nat)(e a F:Int)(d:DD)(w:World)(H:jA w B L g h q b bs e a F d)(W:d.k≠1∧d.k≠3∧d.k≠4∧d.k≠5∧d.k≠6∧d.k≠7):
 Calls prog 207 #[.pointer (some ⟨h,0,none⟩),.pointer (some ⟨q,0,none⟩)] w fun r w'=>r= .returned (.tuple #[])∧∃(G J ap:Int) (d':DD),jA w' B L g h q b bs G J ap d'∧Fr g h q w w'∧ks d d':=by
 obtain⟨Q,aq⟩:=hg H (Fr.refl g h q w);clear H;have aF:(d.k==5)=false:=by simp;omega
 go_enter func207,ntmps207;have aG:=Q.qb.all;go_wp2_with fail;refine(pw L g h b bs e a F w Q.rd Q.hb).mono ?_;rintro r R ⟨I,ar,au,rfl,G,J,af,X⟩;obtain⟨A,av⟩:=hg (Q.read af X) (aq.trans (Fr.of X (.inl rfl)));clear af X;have aH:=A.qb.all;have aI:=A.qb.frozen 1;have S:=(hn.refl q R).setCell (p:=⟨q,1,none⟩) (.inl rfl) (int i64 I);have o:(d:DD).Good (R.setCell ⟨q,1,none⟩ (int i64 I)):=A.gd.hT S (fun Y e=>by have:=A.na Y e;have:=A.ne;omega);obtain⟨ag,ah⟩:=hg (A.store (({d with ac:=I}:DD)) (show ha (R.setCell ⟨q,1,none⟩ (int i64 I)) q 70 _ from A.qb.set 1 (int i64 I)) S ⟨⟨ar,au⟩,o.me,o.h8,o.am,o.ep,o.mo,o.bo,o.bn,o.bits,o.ty⟩ A.na) (av.trans (Fr.of S (.inr (.inr (.inl rfl)))));clear S o;have aJ:=ag.qb.all;have aK:(d.k==1)=false:=by simp;omega
 have aL:(d.k==3)=false:=by simp;omega
 have aM:(d.k==4)=false:=by simp;omega
 have aN:(d.k==6)=false:=by simp;omega
 have aO:(d.k==7)=false:=by simp;omega
 obtain⟨Z,ai,W⟩:∃aj:DD,jA (R.setCell ⟨q,1,none⟩ (int i64 I)) B L g h q b bs G J F aj∧ks d aj:=⟨_,ag,ks.else rfl (by omega)⟩;obtain⟨K,aa⟩:=hg ai W;clear ai W;obtain⟨ak,ab⟩:=hk (F==0&&G==0);go_wp2_with fail;refine(pv g h b G J F _ K.rd.h2 K.hb ak ab).mono ?_;rintro r w' ⟨rfl,rfl⟩;have aP:=g' ab;clear ab;cases ak
 ·go_wp2
  first|go_end0|((try simp only[Exit.inBlock,Exit.then]);refine bodyPost_ret (results_none rfl _ _ _) rfl ?_)
  exact⟨rfl,_,_,_,_,K,ah,aa⟩
 go_wp2_with (refine iv K.qb ja (jo _) rfl rfl rfl rfl ?_);refine(p3 Z _).mono ?_;rintro r aw ⟨ax,rfl,E⟩;obtain⟨T,al⟩:=hg (K.below E) (ah.trans (Fr.of (hn.jJ (g:=g) E) (.inl rfl)));clear E;cases ax
 ·go_wp2
  first|go_end0|((try simp only[Exit.inBlock,Exit.then]);refine bodyPost_ret (results_none rfl _ _ _) rfl ?_)
  exact⟨rfl,_,_,_,_,T,al,aa⟩
 have aQ:=T.hb.all;go_wp2_with fail;refine(oE L g b bs G J 4611686018427387904 aw T.rd).mono ?_;rintro r ad ⟨O,ay,rfl,az,aA,an,ae⟩;obtain⟨D,aB⟩:=hg (T.read an ae) (al.trans (Fr.of ae (.inl rfl)));clear an ae;have aR:=D.qb.all;have aS:=D.qb.frozen 4;have U:=(hn.refl q ad).setCell (p:=⟨q,4,none⟩) (.inl rfl) (int u64 O);have z:(Z:DD).Good (ad.setCell ⟨q,4,none⟩ (int u64 O)):=D.gd.hT U (fun Y e=>by have:=D.na Y e;have:=D.ne;omega);obtain⟨V,aC⟩:=hg (D.store (({Z with am:=O}:DD)) (show ha (ad.setCell ⟨q,4,none⟩ (int u64 O)) q 70 _ from D.qb.set 4 (int u64 O)) U ⟨z.ac,z.me,z.h8,ay,z.ep,z.mo,z.bo,z.bn,z.bits,z.ty⟩ D.na) (aB.trans (Fr.of U (.inr (.inr (.inl rfl)))));clear U z;have aT:=V.qb.all;go_wp2_with fail;refine(oI g h b az aA F 80 _ _ V.rd.h2 V.hb).mono ?_;rintro r aU ⟨rfl,ao,E⟩;obtain⟨aD,aE⟩:=hg (V.oH ao E) (aC.trans (Fr.of E (.inr (.inl rfl))));clear ao E;go_wp2;first|go_end0|((try simp only[Exit.inBlock,Exit.then]);refine bodyPost_ret (results_none rfl _ _ _) rfl ?_)
 exact⟨rfl,_,_,_,_,aD,aE,aa⟩
theorem DQ(B L g h q:Nat)(b:Sl)(bs:List Nat)(e a o:Int)(d:DD)(w:World)(H:jA w B L g h q b bs e a o d):
 Calls prog 207 #[.pointer (some ⟨h,0,none⟩),.pointer (some ⟨q,0,none⟩)] w fun r w'=>r= .returned (.tuple #[])∧∃(I J K:Int) (d':DD),jA w' B L g h q b bs I J K d'∧Fr g h q w w'∧ks d d':=by
 by_cases z:d.k=1
 ·exact DK B L g h q b bs e a o d w H z
 by_cases A:d.k=3
 ·exact DL B L g h q b bs e a o d w H A
 by_cases D:d.k=4
 ·exact DM B L g h q b bs e a o d w H D
 by_cases E:d.k=5
 ·exact DJ B L g h q b bs e a o d w H E
 by_cases F:d.k=6
 ·exact DN B L g h q b bs e a o d w H F
 by_cases G:d.k=7
 ·exact DO B L g h q b bs e a o d w H G
 exact DP B L g h q b bs e a o d w H ⟨z,A,D,E,F,G⟩
def mT(d:DD):Prop:=d.k=6→d.me=0∧d.ep=0∧d.bi=Sl.nil∧d.mo=0∧d.ye=false∧(d.wh≠2→d.h8=0)∧(d.wh≠1→d.p=hx.zero)
theorem n0{w':World}(x:hn g W w)(y:hn q w w')(h:W.heap.size≤q):hn g W w':=
 ⟨y.os.trans x.os,y.tape.trans x.tape,y.output.trans x.output,Nat.le_trans x.size y.size,fun k o r=>(y.block k (Nat.lt_of_lt_of_le o x.size) (by omega)).trans (x.block k o r)⟩
theorem DR(L g:Nat)(b:Sl)(bs:List Nat)(e a:Int)(w:World)(H:j7 w L g b bs e a):
 Calls prog 136 #[.pointer (some ⟨g,0,none⟩)] w fun r w'=>∃(d:DD) (z:Int),r= .returned (.tuple #[.agg d.cs,int i64 z])∧Left w w' L g b bs∧(z=0→d.Good w'∧((1≤d.k∧d.k≤7)∧mT d)∧∀T,d.bi.A=some T→w.heap.size≤T.block):=by
 have aX:=H.h2.lt;have aM:=H.low;obtain⟨D,ak⟩:=hk w.heap.size;obtain⟨h,au⟩:=hk (w.heap.size+1);have al:Below w.heap.size w ((w.alloc (.cells o0 70)).alloc (.cells #[.pointer (some ⟨g,0,none⟩),int i64 0] 269)):=((hz.alloc hj _).alloc (by simp) _);have av:ha ((w.alloc (.cells o0 70)).alloc (.cells #[.pointer (some ⟨g,0,none⟩),int i64 0] 269)) w.heap.size 70 o0:=((ha.new w _ _ _ rfl).alloc _);have aw:ha ((w.alloc (.cells o0 70)).alloc (.cells #[.pointer (some ⟨g,0,none⟩),int i64 0] 269)) (w.heap.size+1) 269 #[.pointer (some ⟨g,0,none⟩),int i64 0]:=(ha.new _ _ _ _ (by simp));obtain⟨am,ax⟩:=ho ((w.alloc (.cells o0 70)).alloc (.cells #[.pointer (some ⟨g,0,none⟩),int i64 0] 269));rw[ax]at al av aw;obtain⟨an,af,aY⟩:=hs av aw ax;clear ax av aw;rw[←ak]at an;rw[←au]at af;obtain⟨aZ,a0,aa⟩:=hs (H.to al) (hn.jJ (g:=g) al) (show g<D∧h=D+1∧L≤g∧D=w.heap.size from⟨by omega,by omega,aM,ak⟩);have a1:am.cell? ⟨h,0,none⟩=some (.pointer (some ⟨g,0,none⟩)):=af.out.cell (j:=0) rfl;have an:Hid (ha am D 70 DD.zero.cs):=an;have af:Hid (ha am h 269 (mS g 0)):=af;obtain⟨a2,a3⟩:=hg ak au;clear ak au H al aX aM;go_enter func136,ntmps136;go_upto_region 4 with(fail)
 rw[aY.out];try rw[←a3.out]
 try rw[←a2.out]
 go_wp2_with fail;refine(oF L g b bs e a 255 (by omega) am aZ.out).mono ?_;rintro r a4 ⟨m,bq,rfl,E,ab,aN,ao⟩;obtain⟨a5,a6,a7,aO⟩:=h5 aN (hn.trans' a0.out ao) (an.out.hT ao (by have:=aa.out;omega)) (af.out.hT ao (by have:=aa.out;omega));clear aN ao;obtain⟨ap,aP⟩:∃d:DD,d={DD.zero with k:=m}:=⟨_,rfl⟩;have ac:=g' aP;clear aP a1;obtain⟨q,aQ⟩:=hk a4.heap.size;have ay:=g' aQ;clear aQ;go_upto_region 5 with(first|(refine wpList_build rfl 70 #[(0,.tmp 13)] rfl (.agg (DD.cs {DD.zero with k:=m})) (fun w'=>by kernel_rfl) ?_)|(refine jD rfl 70 (.tmp 5) (.tmp 14) rfl (DD.cs {DD.zero with k:=m}) rfl rfl (jo _) rfl (k7 _) ?_;intro aq ag ah a8))
 try rw[←ay.out]
 rw[←ay.out,←ac.out]at ag;obtain⟨a9,a',ba,bb,o⟩:=jg (a5.out.to ah) (hn.trans' a6.out (hn.jJ (g:=g) ah)) (a7.out.to ah) (aO.out.to ah) (show g<D∧h=D+1∧L≤g∧D=w.heap.size∧h<q∧q<aq.heap.size from⟨aa.out.1,aa.out.2.1,aa.out.2.2.1,aa.out.2.2.2,by have:=aO.out.lt;have:=ay.out;omega,by have:=ag.lt;omega⟩);have az:=g' (show jA aq aq.heap.size L g h q b bs E ab 0 ap from⟨a9.out,bb.out,ag,by rw[ac.out];exact⟨by simp[DD.zero],by simp[DD.zero],by simp[DD.zero],by simp[DD.zero],by simp[DD.zero],by simp[DD.zero],.nil,by simp[DD.zero,Sl.nil],⟨[],rfl,(fun x J=>by cases J),Rd.nil⟩,fun T e=>by cases e⟩,(fun T e=>by rw[ac.out]at e;cases e),by have:=o.out;refine⟨?_,?_,?_,?_,?_,?_,?_,?_,?_⟩<;>omega⟩);have bc:aq.cell? ⟨q,0,none⟩=some (int i64 m):=by have:=ag.cell (j:=0) (v:=int i64 ap.k) rfl;rw[this,ac.out]
 have bd:=g' (show ap.k=m by rw[ac.out]);clear ag ah a8;obtain⟨aA,aB⟩:=hk (decide (1≤m∧m≤7));have be:=g' aB;go_wp2_with fail;refine(nY m 1 7 aA aB _).mono ?_;rintro r w' ⟨rfl,rfl⟩;clear aB;go_wp2_with fail;refine(oI g h b E ab 0 80 aA _ az.out.rd.h2 az.out.hb).mono ?_;rintro r aR ⟨rfl,aC,ar⟩;obtain⟨G,aD⟩:∃x:Int,x=(if aA=false∧(0:Int)=0∧E=0 then 80 else 0):=⟨_,rfl⟩;rw[←aD]at aC;obtain⟨O,aE,ad,bf⟩:=h5 (az.out.oH aC ar) (show hn g w aR from Fr.hT (h:=h) (q:=q) a'.out (Fr.of ar (.inr (.inl rfl))) (by have:=o.out;omega) (by have:=o.out;omega)) (ba.out.hT ar (by have:=o.out;omega)) aD;clear aC ar aD;obtain⟨y,aF⟩:=hk (G==0&&E==0);go_wp2_with fail;refine(pv g h b E ab G _ O.out.rd.h2 O.out.hb y aF).mono ?_;rintro r w' ⟨rfl,rfl⟩;have aS:=g' aF;clear aF bc;cases y
 ·have bg:=O.out.hb.cell (j:=0) (v:= .pointer (some ⟨g,0,none⟩)) rfl
  have bh:=O.out.hb.cell (j:=1) (v:=int i64 G) rfl;go_wp2_with fail;refine(oD b E ab g _ O.out.rd.h2).mono ?_;rintro r w' ⟨rfl,rfl⟩;by_cases Q:E=0
  ·subst Q
   by_cases J:G=0
   ·exact absurd aS.out (by simp[J])
   have aG:(G==0)=false:=by simpa using J
   have aH:(G !=0)=true:=by simpa using J
   go_upto_region 11 with(fail)
   refine j8 (fun w'=>ha w' h 269 (mS g G)) (by kernel_rfl) (by rintro _ _ (_|_) _ _ h<;>exact h) O.out.hb.drew fun bj F=>?_;refine wpAnyH_take (i:=0) (v:= .agg DD.zero.cs) rfl (by kernel_rfl) (by kernel_rfl) (by kernel_rfl) (fun _ _ _ h=>h) (Or.inl ⟨by rfl,fun w' _=>by kernel_rfl⟩) F ?_;try simp only[S4,S3]
   refine lQ (by rintro _ _ (_|_) _ _ h<;>exact h) 4 [1,2,3,4] F (by kernel_rfl) ?_;iterate 4(refine iu rfl rfl (fun w' W=>by try simp only[S3];have aI:=W.cell (j:=1) (v:=int i64 G) rfl;go_simp;try rfl) ?_;try simp only[S4,S3])
   refine il ?_;refine iD 5 rfl (by kernel_rfl) fun K aJ=>?_;rw[if_pos (by rfl)];refine wp_store_row 70 (.tmp 2) (.tmp 43) rfl D DD.zero.cs rfl rfl 70 DD.zero.cs ad.out.drew (jo _) rfl (k7 _) ?_;refine aJ.out _ _ (F.tz (by have:=o.out;omega) _) (fun F=>?_);try simp only[Act.put,List.getElem_toArray,List.getElem_cons_zero,List.getElem_cons_succ]
   refine wpAnyH_take (i:=6) (v:= ?br) rfl (by kernel_rfl) (by kernel_rfl) (by kernel_rfl) (fun _ _ _ h=>h) (Or.inl ⟨by rfl,?bk⟩) F ?bt
   case bk=>
    intro w' W;try simp only[S3]
    have aI:=W.cell (j:=1) (v:=int i64 G) rfl;go_simp;try rfl
   try simp only[S4,S3]
   clear F;refine wpAnyH_done (by kernel_rfl) ?_ _;go_wp2;exact bodyPost_ret (v:= .tuple #[.agg DD.zero.cs,int i64 G]) (jy results136 _ _ _ _ _ _ _ rfl rfl (ad.out.drew.row _) ja rfl (jo _)) rfl ⟨DD.zero,G,rfl,⟨_,_,(O.out.rd.to hM).other (q:=D) (by have:=o.out;omega) (by have:=o.out;omega) ad.out.drew.lt (hn.row _ _ _),n0 (hn.trans' aE.out (hn.jJ (g:=g) hM)) (hn.row _ _ _) (by have:=o.out;omega)⟩,fun h=>absurd h J⟩
  have aG:(E==0)=false:=by simpa using Q
  have aH:(E !=0)=true:=by simpa using Q
  go_wp2_with (first|(refine wpList_build rfl 70 #[] rfl (.agg DD.zero.cs) (fun w'=>by kernel_rfl) ?_));refine(oD b E ab g _ O.out.rd.h2).mono ?_;rintro r w' ⟨rfl,rfl⟩;go_wp2_with (refine iL rfl 70 (.tmp 2) (.tmp 31) rfl D DD.zero.cs rfl rfl 70 _ ad.out (jo _) rfl (k7 _) ?_;intro aT U V;have ai:=g' U;have R:=g' V;clear U V);exact bodyPost_ret (v:= .tuple #[.agg DD.zero.cs,int i64 E]) (jy results136 _ _ _ _ _ _ _ rfl rfl ai.out ja rfl (jo _)) rfl ⟨DD.zero,E,rfl,⟨_,_,O.out.rd.other (q:=D) (by have:=o.out;omega) (by have:=o.out;omega) ad.out.lt R.out,n0 aE.out R.out (by have:=o.out;omega)⟩,fun h=>absurd h Q⟩
 have bl:=g' (show 1≤m∧m≤7 from by
  have aj:=aS.out;have bm:=bf.out;have aU:=be.out;by_cases X:1≤m∧m≤7
  ·exact X
  exfalso;rw[decide_eq_false X]at aU;simp at aj;rw[if_pos ⟨aU,by trivial,aj.2⟩]at bm;omega)
 go_wp2_with fail;refine(DQ _ L g h q b bs E ab G ap aR O.out).mono ?_;rintro r bn ⟨rfl,Y,aV,S,ae,aW,aK,X⟩;obtain⟨I,aL,Z,bo⟩:=h5 aW (show hn g w bn from Fr.hT aE.out aK (by have:=o.out;omega) (by have:=o.out;omega)) (ha.fr ad.out aK (by have:=o.out;omega) (by have:=o.out;omega) (by have:=o.out;omega)) (show(1≤ae.k∧ae.k≤7)∧mT ae from⟨by rw[X.1,bd.out];exact bl.out,fun e=>by have aj:=X.2 (X.1.symm.trans e);rw[ac.out]at aj;exact aj⟩);clear aW aK X;have bg:=I.out.hb.cell (j:=0) (v:= .pointer (some ⟨g,0,none⟩)) rfl;have bh:=I.out.hb.cell (j:=1) (v:=int i64 S) rfl;go_wp2_with fail;refine(oD b Y aV g _ I.out.rd.h2).mono ?_;rintro r w' ⟨rfl,rfl⟩;by_cases Q:Y=0
 ·subst Q
  by_cases J:S=0
  ·subst J
   go_wp2_with (first|(refine hR I.out.qb ja (jo _) rfl rfl rfl rfl ?_)|(refine iL rfl 70 (.tmp 2) (.tmp 48) rfl D (DD.cs ae) rfl rfl 70 _ Z.out (jo _) rfl (k7 _) ?_;intro aT U V;have ai:=g' U;have R:=g' V;clear U V));exact bodyPost_ret (v:= .tuple #[.agg (DD.cs ae),int i64 0]) (jy results136 _ _ _ _ _ _ _ rfl rfl ai.out ja rfl (jo _)) rfl ⟨ae,0,rfl,⟨_,_,I.out.rd.other (q:=D) (by have:=o.out;omega) (by have:=o.out;omega) Z.out.lt R.out,n0 aL.out R.out (by have:=o.out;omega)⟩,fun _=>⟨I.out.gd.hT R.out (fun T e=>by have:=I.out.na T e;have:=o.out;omega),bo.out,fun T e=>by have:=I.out.na T e;have:=o.out;omega⟩⟩
  have aG:(S==0)=false:=by simpa using J
  have aH:(S !=0)=true:=by simpa using J
  go_upto_region 11 with(fail)
  refine j8 (fun w'=>ha w' h 269 (mS g S)) (by kernel_rfl) (by rintro _ _ (_|_) _ _ h<;>exact h) I.out.hb.drew fun bj F=>?_;refine wpAnyH_take (i:=0) (v:= .agg DD.zero.cs) rfl (by kernel_rfl) (by kernel_rfl) (by kernel_rfl) (fun _ _ _ h=>h) (Or.inl ⟨by rfl,fun w' _=>by kernel_rfl⟩) F ?_;try simp only[S4,S3]
  refine lQ (by rintro _ _ (_|_) _ _ h<;>exact h) 4 [1,2,3,4] F (by kernel_rfl) ?_;iterate 4(refine iu rfl rfl (fun w' W=>by try simp only[S3];have aI:=W.cell (j:=1) (v:=int i64 S) rfl;go_simp;try rfl) ?_;try simp only[S4,S3])
  refine il ?_;refine iD 5 rfl (by kernel_rfl) fun K aJ=>?_;rw[if_pos (by rfl)];refine wp_store_row 70 (.tmp 2) (.tmp 43) rfl D DD.zero.cs rfl rfl 70 DD.zero.cs Z.out.drew (jo _) rfl (k7 _) ?_;refine aJ.out _ _ (F.tz (by have:=o.out;omega) _) (fun F=>?_);try simp only[Act.put,List.getElem_toArray,List.getElem_cons_zero,List.getElem_cons_succ]
  refine wpAnyH_take (i:=6) (v:= ?bu) rfl (by kernel_rfl) (by kernel_rfl) (by kernel_rfl) (fun _ _ _ h=>h) (Or.inl ⟨by rfl,?bp⟩) F ?bv
  case bp=>
   intro w' W;try simp only[S3]
   have aI:=W.cell (j:=1) (v:=int i64 S) rfl;go_simp;try rfl
  try simp only[S4,S3]
  clear F;refine wpAnyH_done (by kernel_rfl) ?_ _;go_wp2;exact bodyPost_ret (v:= .tuple #[.agg DD.zero.cs,int i64 S]) (jy results136 _ _ _ _ _ _ _ rfl rfl (Z.out.drew.row _) ja rfl (jo _)) rfl ⟨DD.zero,S,rfl,⟨_,_,(I.out.rd.to hM).other (q:=D) (by have:=o.out;omega) (by have:=o.out;omega) Z.out.drew.lt (hn.row _ _ _),n0 (hn.trans' aL.out (hn.jJ (g:=g) hM)) (hn.row _ _ _) (by have:=o.out;omega)⟩,fun h=>absurd h J⟩
 have aG:(Y==0)=false:=by simpa using Q
 have aH:(Y !=0)=true:=by simpa using Q
 go_wp2_with (first|(refine wpList_build rfl 70 #[] rfl (.agg DD.zero.cs) (fun w'=>by kernel_rfl) ?_));refine(oD b Y aV g _ I.out.rd.h2).mono ?_;rintro r w' ⟨rfl,rfl⟩;go_wp2_with (refine iL rfl 70 (.tmp 2) (.tmp 31) rfl D DD.zero.cs rfl rfl 70 _ Z.out (jo _) rfl (k7 _) ?_;intro aT U V;have ai:=g' U;have R:=g' V;clear U V);exact bodyPost_ret (v:= .tuple #[.agg DD.zero.cs,int i64 Y]) (jy results136 _ _ _ _ _ _ _ rfl rfl ai.out ja rfl (jo _)) rfl ⟨DD.zero,Y,rfl,⟨_,_,I.out.rd.other (q:=D) (by have:=o.out;omega) (by have:=o.out;omega) Z.out.lt R.out,n0 aL.out R.out (by have:=o.out;omega)⟩,fun h=>absurd h Q⟩
open hU
theorem x7:(prog.info? 70).map (fun i=>(i.zero,i.size,i.bytes))=some (some (.agg #[int i64 0,int i64 0,int i64 0,int i64 0,int u64 0,int i64 0,.slice none 0 0,int i64 0,int u64 0,int u64 0,int u64 0,int u64 0,int u64 0,int u64 0,int u64 0,int u64 0,int u64 0,int u64 0,int u64 0,int u64 0,int u64 0,int u64 0,int i64 0,int i64 0,int i64 0,int i64 0,int i64 0,int i64 0,int i64 0,int i64 0,int i64 0,int i64 0,int i64 0,.bool false]),34,288):=by kernel_rfl
def DD.enc(d:DD):List Value:=d.cs.toList
theorem DD.len(d:DD):d.enc.length=34:=rfl
structure sY (w:World) (s:Sl) (ds:List DD):Prop where
 ok:s.Ok
 row:hV w w.heap.size s.A s.n 34 (flat DD.enc ds)
 lL:∀d∈ds,d.Good w∧(1≤d.k∧d.k≤7)∧mT d
 x8:s.n≤64
theorem DD.Good.grown{d:DD}{w':World}{row:Option Nat}(h:d.Good w)(D:w.grownBy w' row)(E:∀o,d.bi.A=some o→row≠some o.block):d.Good w':=
 ⟨h.ac,h.me,h.h8,h.am,h.ep,h.mo,h.bo,h.bn,by
   obtain⟨G,I,J,K⟩:=h.bits;refine⟨G,I,J,fun j O=>?_⟩;obtain⟨o,e,F,r⟩:=K j O;refine⟨o,e,Nat.lt_of_lt_of_le F D.size,?_⟩;rw[←r];refine World.cell?_of_block (D.block _ (by rw[block_add];exact F) (fun z=>?_));rw[block_add]at z;exact E o e z.symm,fun o e=>by
   obtain⟨Q,r⟩:=h.ty o e;exact⟨Q,(D.block _ (Array.getElem?_eq_some_iff.1 r).1 (fun z=>E o e z.symm)).trans r⟩⟩
theorem DS{w':World}{v:Value}{xs:List Value}(h:w.ownsRow b e s v n xs)(o:hn i w w')(r:v.ownBlock≠some i):w'.ownsRow b e s v n xs:=
 h.kept (row:=some i) ⟨o.os,o.tape,o.output,o.size,fun k z A=>o.block k z (fun e=>A (by rw[e]))⟩ (by
   rcases h.2 with⟨rfl,_⟩|⟨g,cap,cur,rfl,_⟩
   ·left;rfl
   right;exact r)
theorem sZ{v:Value}{xs:List Value}(h:w.ownsRow b e s v n xs)(o:v.ownBlock=some g):b≤g∧∃r,w.heap[g]?=some (.cells r e (0,0)):=by
 rcases h.2 with⟨rfl,_⟩|⟨k,cap,r,rfl,z,A,_⟩
 ·cases o
 injection o with o;subst o;exact⟨z,r,A⟩
theorem x9{c c':Array Value}{f r:Nat×Nat}(h:w.heap[g]?=some (.cells c e f))(o:w.heap[k]?=some (.cells c' t r))(z:e≠t):g≠k:=fun x=>by
 subst x;rw[h]at o;injection o with o;injection o with _ o;exact z o
theorem j7.grown{w':World}{b:Sl}{bs:List Nat}{e:Int}{row:Option Nat}(h:j7 w L g b bs e E)(o:w.grownBy w' row)(r:∀k,row=some k→g<k):j7 w' L g b bs e E:=
 ⟨(o.block g h.h2.lt (fun e=>by have:=r g e.symm;omega)).trans h.h2,h.row.below ((Below.refl L w).grown o (by have:=h.h2.lt;have:=h.low;omega) fun k z=>by have:=r k z;have:=h.low;omega),h.low,h.len,h.pos,h.ok⟩
def p4(w:World)(r:Ending)(w':World):Prop:=∃(s:Sl) (i z:Int) (ds:List DD),r= .returned (.tuple #[s.v,int i64 i,int i64 z])∧Below w.heap.size w w'∧(z=0→sY w' s ds)
theorem p4.err{w':World}(i z:Int)(o:z≠0)(h:Below w.heap.size w w'):p4 w (.returned (.tuple #[.slice none 0 0,int i64 i,int i64 z])) w':=⟨Sl.nil,i,z,[],rfl,h,fun e=>absurd e o⟩
theorem DT(A:Option Addr)(n c:Nat)(bs:List Nat)(w:World)(h:hq.ie w w.heap.size A n bs)(aR:n≤1000000):
 Calls prog 69 #[.slice A n c] w fun r w'=>p4 w r w':=by
 obtain⟨aS,aT,aU,aV,aW⟩:=jg (Ds A n c bs w h aR) (fun L g b bs W I J h=>oF L g b bs I J 64 (by omega) W h) (fun b I J g W h=>oD b I J g W h) (fun L g b bs e a w h=>DR L g b bs e a w h) (fun b I J g W h=>Dr b I J g W h);obtain⟨aX,aY,aZ,a0,a1⟩:=info_parts x7;clear h;by_cases av:131072<n
 ·have a2:=hZ av
  have a3:decide ((131072:Int)<(n:Int))=true:=by simp;omega
  go_enter func69,ntmps69;go_wp2;go_ret3;exact p4.err 0 3 (by decide) hz
 have a2:=h1 av;have a3:decide ((131072:Int)<(n:Int))=false:=by simp;omega
 go_enter func69,ntmps69;go_wp2_with fail;refine aS.mono ?_;rintro r a4 ⟨g,L,b,rfl,ab,a5,aw,ad⟩;go_wp2_with fail;refine(aT.out L g b bs a4 0 0 aw).mono ?_;rintro r T ⟨m,bC,rfl,ae,ax,ay,az⟩;obtain⟨af,ag,a6⟩:=hs (iC ad az ab ad.size) ay ab;clear aw ay ad az ab a5;go_wp2_with fail;refine(aU.out b ae ax g T ag.h2).mono ?_;rintro r w' ⟨rfl,rfl⟩;by_cases K:ae=0
 ·subst K
  obtain⟨q,ah⟩:=hk T.heap.size;obtain⟨ai,a7,a8⟩:=hs (show w.heap.size≤q∧g<q from⟨by rw[ah];exact af.size,by rw[ah];exact ag.h2.lt⟩) (show T.ownsRow q 70 34 (.slice none 0 0) 0 (flat DD.enc [])from World.ownsRow_nil _ _ _ _) (show q≤T.heap.size by omega);clear ah;obtain⟨x,rfl⟩:∃x:Nat,m=(x:Int):=⟨m.toNat,by omega⟩;go_wp2;go_loopw [2,25] (fun a9 aj wr=>∃(k:Nat) (e a:Int) (ds:List DD),aj=int i64 k∧k≤x∧wr.ownsRow q 70 34 a9 k (flat DD.enc ds)∧j7 wr L g b bs e a∧(∀d∈ds,d.Good wr∧(1≤d.k∧d.k≤7)∧mT d)∧Below w.heap.size w wr∧q≤wr.heap.size) (fun _ aj _=>x-(intOf aj).toNat)
  case atStart=>exact⟨0,0,ax,[],rfl,h6,a7.out,ag.out,fun d F=>(by cases F),af.out,a8.out⟩
  case round=>
   obtain⟨k,e,a,ds,rfl,U,aA,aB,aC,aD,a'⟩:=hrel;obtain⟨ak,al,O,V⟩:=h5 aA aB aC aD;clear aA aB aC aD;by_cases aE:k<x
   ·have ba:=hZ aE
    go_wp2_with fail;refine(aV.out L g b bs e a wr al.out).mono ?_;rintro r an ⟨d,z,rfl,⟨bb,bc,aF,Q⟩,aG⟩;obtain⟨bd,ao,be⟩:=hs aF (iC V.out Q a6.out V.size) (DS ak.out Q (fun e=>by have:=(sZ ak.out e).1;have:=ai.out;omega));have aH:=g' (show∀d∈ds,d.Good an∧(1≤d.k∧d.k≤7)∧mT d from fun d F=>⟨(O.out d F).1.hT Q (fun ap e=>by
     obtain⟨bf,aq⟩:=(O.out d F).1.ty ap e;exact x9 aq al.h2 (by decide)),(O.out d F).2⟩)
    have bg:=g' aG;have bD:q≤an.heap.size:=Nat.le_trans a' Q.size;clear aF Q aG;by_cases D:z=0
    ·subst D
     have aI:=g' (bg.out rfl);go_upto_region 12 with(refine jD rfl 70 (.tmp 9) (.tmp 31) rfl d.cs rfl rfl (jo _) rfl (k7 _) ?_;intro G X E aJ)
     obtain⟨bh,ar⟩:=hk an.heap.size;rw[←ar]at X;try rw[←ar]
     obtain⟨aK,bj,bk,bl⟩:=h5 (ao.trans (E.mono ao.size)) X (kl be.out E) (bd.to E);have aL:=g' (show∀y∈ds++[d],y.Good G∧(1≤y.k∧y.k≤7)∧mT y from fun y o=>by
      rcases List.mem_append.1 o with o|o
      ·exact⟨(aH.out y o).1.below E,(aH.out y o).2⟩
      obtain rfl:=List.mem_singleton.1 o;exact⟨aI.1.below E,aI.2.1⟩)
     have bE:q≤G.heap.size:=by have:=E.size;omega
     clear X E aJ ar;have bF:k≤64:=by omega
     have bm:Hid (ha G bh 70 #[int i64 d.k,int i64 d.ac,int i64 d.me,int i64 d.h8,int u64 d.am,int i64 d.ep,.slice d.bi.A d.bi.n d.bi.c,int i64 d.wh,int u64 d.p.inc,int u64 d.p.ix,int u64 d.p.floor,int u64 d.p.cap,int u64 d.p.up,int u64 d.p.down,int u64 d.p.ih,int u64 d.p.quot,int u64 d.p.iR,int u64 d.p.iS,int u64 d.p.recover,int u64 d.p.ig,int u64 d.p.iT,int u64 d.p.iU,int i64 d.p.iV,int i64 d.p.ic,int i64 d.p.iE,int i64 d.p.iN,int i64 d.p.iI,int i64 d.p.iy,int i64 d.p.wait,int i64 d.p.iW,int i64 d.p.iK,int i64 d.p.iO,int i64 d.mo,.bool d.ye]):=bj;have R:Below G.heap.size G (G.alloc (.cells #[int i64 d.k,int i64 d.ac,int i64 d.me,int i64 d.h8,int u64 d.am,int i64 d.ep,.slice d.bi.A d.bi.n d.bi.c,int i64 d.wh,int u64 d.p.inc,int u64 d.p.ix,int u64 d.p.floor,int u64 d.p.cap,int u64 d.p.up,int u64 d.p.down,int u64 d.p.ih,int u64 d.p.quot,int u64 d.p.iR,int u64 d.p.iS,int u64 d.p.recover,int u64 d.p.ig,int u64 d.p.iT,int u64 d.p.iU,int i64 d.p.iV,int i64 d.p.ic,int i64 d.p.iE,int i64 d.p.iN,int i64 d.p.iI,int i64 d.p.iy,int i64 d.p.wait,int i64 d.p.iW,int i64 d.p.iK,int i64 d.p.iO,int i64 d.mo,.bool d.ye] 70)):=hz.alloc hj _;obtain⟨Y,bn,aM,au⟩:=h5 (kl bk.out R) (bl.to R) (aK.trans (R.mono aK.size)) (show∀y∈ds++[d],y.Good _∧(1≤y.k∧y.k≤7)∧mT y from fun y o=>⟨(aL.out y o).1.below R,(aL.out y o).2⟩);clear R;go_wp2_with (first|(refine hR bm.out ja (jo d) rfl rfl rfl rfl ?_)|(at_builtin;refine wpList_append_lies _ rfl (.tmp 37) (.tmp 39) 35 rfl q 70 aX _ 34 288 underlying35 aY aZ a0 a1 rfl (by decide) _ _ _ rfl Y.out ⟨G.heap.size,0,none⟩ 1 1 (DD.enc d) rfl rfl (kp _ _ _ _ rfl) (fun v bo=>List.all_eq_true.1 (show(DD.enc d).all (·.oneCell')=true from by kernel_rfl) v bo) (by omega) (by unfold maxLen;omega) (by omega) (by simp;omega) _ rfl ?_;intro bG bH bI bp Z bJ bK));have bq:∀k,u2.ownBlock=some k→g<k:=fun k U=>by have br:=(sZ Y.out U).1;have bt:=ai.2;omega
     refine⟨⟨k+1,bb,bc,ds++[d],by go_num,by omega,?_,bn.grown Z bq,fun y o=>⟨(au.out y o).1.grown Z (fun ap e h=>?_),(au.out y o).2⟩,aM.grown Z aM.size (fun k U=>?_),Nat.le_trans (by simp;omega) Z.size⟩,by simp[intOf];omega⟩
     ·rw[ld,mi];exact bp
     ·obtain⟨bf,aq⟩:=(au.out y o).1.ty ap e
      obtain⟨_,bL,bu⟩:=sZ Y.out h;exact x9 aq bu (by decide) rfl
     have br:=(sZ Y.out U).1;have bt:=ai.1;omega
    have aN:=iM D;have aO:(z !=0)=true:=by simp[D]
    obtain⟨S,aP⟩:=hg D ao.out;clear D;go_wp2_with (first|(refine jD rfl 70 (.tmp 9) (.tmp 31) rfl d.cs rfl rfl (jo _) rfl (k7 _) ?_;intro G X E aJ));go_ret3;exact p4.err _ _ S.out (aP.trans (E.mono aP.size))
   have ba:=h1 aE;go_wp2_with fail;refine(aW.out b e a g wr al.h2).mono ?_;rintro r bv ⟨z,rfl,aa⟩;obtain⟨bw,aQ,bx⟩:=hs (show∀d∈ds,d.Good bv∧(1≤d.k∧d.k≤7)∧mT d from fun d F=>⟨(O.out d F).1.below aa,(O.out d F).2⟩) (V.trans (aa.mono V.size)) (kl ak.out aa);clear aa;by_cases D:z=0
   ·subst D
    go_wp2;obtain⟨s6,bz,bM,bA,_,bB⟩:=jZ bx.out;rw[bz];go_ret3;exact⟨s6,0,0,ds,rfl,aQ.out,fun _=>⟨bA,bB,bw.out,by omega⟩⟩
   have aN:=iM D;have aO:(z !=0)=true:=by simp[D]
   have S:=g' D;clear D;go_wp2;go_ret3;exact p4.err _ _ S.out aQ.out
 have aN:=iM K;have aO:(ae !=0)=true:=by simp[K]
 have S:=g' K;clear K;go_wp2;go_ret3;exact p4.err _ _ S.out af.out
end hB
end Go.Proofs.YtffbipddbnkdjaaGreat
