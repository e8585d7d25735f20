/- What functions compute at any arguments, and plain facts: A tick's enter; A tick's enact; A tick's adjust; A tick's moots. Conditions: those that each theorem names. -/
import Derived.Test.YtffbipddbnkdjaaGreatZ26
set_option maxRecDepth 100000
set_option maxHeartbeats 40000000
set_option linter.all false
open Go Go.Proofs.Tryz
open Go.Value(int)
open Go.IntKind(i64 u64)
variable{A T:Option Addr}{n g b L k B i x a m j q c p s r d h u N y:Nat}{E z:Int}{P:Program}{w W X Z:World}{e t:TypeId}{f:Nat→Value}{l:List Bool}{V U:Value}{Y:List Nat}{S:List Value}{R:List Int}{Q:Array Value}{O:List (List Nat)}{M:Bool}{K:Ending}{J:Addr}{I:Nat→Nat}{H:Option Nat}
namespace Go.Proofs.YtffbipddbnkdjaaGreat
namespace hB
open RowKit
open hG hf hC h0 hU
theorem FI{p:hx}(o:p.jd){m:Mem}(h:MG m):MG (rG p m):=by
 unfold rG;split
 ·exact⟨⟨h.iq.hD,by have:=tg o m.hD;simp only;omega,h.iq.h9,by simp,h.iq.own,by simp⟩,h.hD,tg o _⟩
 exact h
theorem yV{κ o:hr}{xs:List Value}{w':World}(h:hV (hL κ w) w.heap.size A n g xs)(r:ht κ w o w'):hV (hL o w') w'.heap.size A n g xs:=(h.below r.hL).more r.size
def yW(t:Tk)(c:hl)(r:Rc)(j:Nat)(D:hr)(g:Nat)(W:World):Prop:=∃(E d' o' s':Sl) (ms:List Mem) (du:List Du) (o A:List Int),
 hK D g {t with s:={t.s with ex:=E,du:=d'},r:={t.r with ou:=o',st:=s'}} {c with ms:=ms,xs:=jV c.xs o,du:=du} {r with os:=r.os++o,ss:=r.ss++A} W∧
 ms.length=c.ms.length∧(∀m∈ms,MG m)∧o.length≤j∧A.length≤j∧du.length≤c.du.length+o.length∧(∀z,z≤t.s.ep→(∀x∈c.du,DG z (t.s.ep+50) x)→∀x∈du,DG z (t.s.ep+50) x)
theorem FJ(κ:hr)(g:Nat)(t:Tk)(c:hl)(r:Rc)(w:World)(h:hK κ g t c r w)(bH:t.r.q=true)(bI:iG t.s.p=true)(aj:∀m∈c.ms,MG m)(bJ:c.ms.length≤128)(bK:∀x∈c.es,0≤x∧x<(c.ms.length:Int))(bL:c.es.length≤300)(bM:c.us.length≤1000000)(bN:c.ds.length≤256)(aC:∀d∈c.ds,qW c.ms.length d)(bO:TD t c r)(bP:r.ss.length≤100000):
 Calls prog 65 #[.pointer (some ⟨g,0,none⟩)] w fun e w'=>e= .returned (.tuple #[])∧∃(au:hr) (ak av al:Sl) (Q:List Mem) (E:List Int) (Y:List Nat) (k:Nat),c.ms.length≤Q.length∧Q.length≤128∧Y.length=c.us.length∧(k:Int)≤max 0 t.s.p.iy∧E.length≤600∧ht κ w au w'∧
  yW {t with s:={t.s with me:=ak,en:=av,pu:=al,po:=Sl.nil}} {c with ms:=Q,es:=E,us:=Y,ds:=[]} r k au g w':=by
 have bQ:t.s.po.n=c.ds.length:=(h.row.n.po.len h'.len (by omega)).symm;obtain⟨R,aD,c0⟩:=hs (And.intro bI (And.intro aj (And.intro bJ (And.intro bK (And.intro bL (And.intro bM (And.intro bN aC))))))) bO bP;have c1:=h.box.cell (j:=43) (v:= .bool true) (by rw[←bH];rfl);have bR:=h.box.all;have c2:=h.box.frozen 36;obtain⟨bS,bb⟩:=h.kZ (h.row.uX Sl.nil [] Sl.Ok.nil ⟨rfl,fun j bT=>by simp[Sl.nil]at bT⟩) 36 (.slice none 0 0) rfl;obtain⟨bc,bd,aS⟩:=hs bS bb (yV h.row.n.po bb);obtain⟨dM,bU⟩:=ho (w.setCell ⟨g,36,none⟩ (.slice none 0 0));rw[bU]at bc bd aS;obtain⟨c3,be⟩:=hk t.s.po.A;obtain⟨dN,bV⟩:=hk t.s.po.c;obtain⟨aw,aT⟩:=hk t.s.po.n;rw[←be,←aT]at aS;rw[←be,←bV,←aT]at bR;have aU:=g' (show aw=c.ds.length by rw[aT];exact bQ);obtain⟨c4,c5,c6,c7,c8⟩:=info_parts qf;clear h bH bI aj bJ bK bL bM bN aC bO bQ bS bb be bV aT bP;go_enter func65,ntmps65;go_upto_region 3 with(fail)
 clear bU bR c2 c1;go_wp2;go_loopw [28] (fun ax wr=>∃(j:Nat) (ad:hr) (ak av al:Sl) (Q:List Mem) (E:List Int) (Y:List Nat),ax=int i64 j∧j≤aw∧hK ad g {t with s:={t.s with me:=ak,en:=av,pu:=al,po:=Sl.nil}} {c with ms:=Q,es:=E,us:=Y,ds:=[]} r wr∧ht κ w ad wr∧hV (hL ad wr) wr.heap.size c3 aw 4 (flat h'.enc c.ds)∧c.ms.length≤Q.length∧Q.length≤128∧(∀m∈Q,MG m)∧E.length≤c.es.length+j∧(∀x∈E,0≤x∧x<(Q.length:Int))∧Y.length=c.us.length) (fun ax _=>aw-(intOf ax).toNat)
 case atStart=>exact⟨0,κ,t.s.me,t.s.en,t.s.pu,c.ms,c.es,c.us,rfl,h6,bc.out,bd.out,aS.out,hj,R.2.2.1,R.2.1,hj,R.2.2.2.1,rfl⟩
 case round=>
  obtain⟨j,ad,ak,av,al,Q,E,Y,rfl,bT,F,J,aV,aI,aW,aX,bf,aJ,aK⟩:=hrel;by_cases aY:j<aw
  ·have bg:=hZ aY
   have c9:aw≤256:=by have:=aU.out;have:=R.2.2.2.2.2.2.1;omega
   have aZ:i64.wrap ((j:Int)+1)=((j+1:Nat):Int):=by rw[IntKind.wrap_i64];omega
   obtain⟨d,aC⟩:∃d,c.ds[j]?=some d:=⟨_,iB (by rw[←aU.out];exact aY)⟩;have bW:=(R.2.2.2.2.2.2.2 d (List.mem_of_getElem? aC)).more aI;obtain⟨ae,rfl,dO,aL⟩:=(oO aV).cell h'.len aY aC (by omega);have bh:wr.cell? (ae.add (j*4))=some (int i64 d.ac):=by have:=aL 0 _ rfl;rwa[hG.add_zero]at this
   have dP:wr.cell? ⟨(ae.add (j*4)).block,(ae.add (j*4)).off+1,none⟩=some (int i64 d.me):=aL 1 _ rfl;have aE:wr.cell? ⟨(ae.add (j*4)).block,(ae.add (j*4)).off+2,none⟩=some (int u64 d.am):=aL 2 _ rfl;have dQ:wr.cell? ⟨(ae.add (j*4)).block,(ae.add (j*4)).off+3,none⟩=some (.bool d.nw):=aL 3 _ rfl;obtain⟨da,X⟩:=hg (fun Z (an:Below wr.heap.size wr Z)=>FH ad g _ _ r Z d (F.below an) R.1 aX aW aJ (by have:=R.2.2.2.2.1;show E.length≤1000;omega) (by show Y.length≤1000000;rw[aK];exact R.2.2.2.2.2.1) bW) (And.intro J (And.intro aV (And.intro aI (And.intro bf aK))));clear F J aV aI aW aX bf aJ aK aC bW aL c9;have aM:Below wr.heap.size wr (wr.alloc (.cells #[int i64 d.ac,int i64 d.me,int u64 d.am,.bool d.nw] 102)):=hz.alloc hj _;have bX:=g' aM;clear aM;go_wp2_with fail;refine(da.out _ bX.out).mono ?_;rintro e dR ⟨rfl,au,db,dc,dd,de,df,dh,bY,bZ,b0,b1,b2,b3,b4,b5⟩;obtain⟨a0,b6,G⟩:=hs b5 ((ht.of (κ:=ad) bX.out).trans b4) (And.intro bY (And.intro bZ (And.intro b0 (And.intro b1 (And.intro b2 b3)))));clear bY bZ b0 b1 b2 b3 b4 b5;go_wp2;exact⟨⟨j+1,au,db,dc,dd,de,df,dh,by first|rfl|rw[aZ],by omega,a0.out,X.1.trans b6.out,yV X.2.1 b6.out,Nat.le_trans X.2.2.1 G.1,G.2.1,G.2.2.1,(by have ay:=G.2.2.2.1;have ao:=X.2.2.2.1;first|omega|(simp only at ay;omega)),G.2.2.2.2.1,G.2.2.2.2.2.trans X.2.2.2.2⟩,by simp[intOf];omega⟩
  have bg:=h1 aY;obtain rfl:j=aw:=by omega
  obtain⟨di,X,b7,b8,b9⟩:=jg (fun Z (dj:hK ad g ({t with s:={t.s with me:=ak,en:=av,pu:=al,po:=Sl.nil}}) ({c with ms:=Q,es:=E,us:=Y,ds:=[]}) r Z)=>yD av E t.s.p.iy Z (kD.2 dj.row.en.row) (by have:=R.2.2.2.2.1;have:=R.2.2.2.2.2.2.1;have:=aU.out;omega) (fun z dk=>by have:=aJ z dk;omega)) (And.intro aI (And.intro aW (And.intro aX (And.intro aJ aK)))) (show E.length≤556 by have:=R.2.2.2.2.1;have:=R.2.2.2.2.2.2.1;have:=aU.out;omega) F J;clear F J aV aI aW aX bf aJ aK bc bd aS;go_wp2;refine gZ.iP (fun w'=>hK ad g {t with s:={t.s with me:=ak,en:=av,pu:=al,po:=Sl.nil}} {c with ms:=Q,es:=E,us:=Y,ds:=[]} r w') 17 (by kernel_rfl) (by rintro _ _ (_|_) _ _ h<;>exact h) (b8.below hM) fun af D=>?_;refine gZ.tq af 6 (gZ.sq 0 11 false []) (by kernel_rfl) D ?_;iterate 11(refine gZ.t1 rfl rfl (fun w' I=>by try simp only[S3];have dl:=I.box.all;go_simp;try rfl) ?_;try simp only[S4,S3])
  refine gZ.hH (fun D=>?_);refine gZ.hY 11 (n:=5) rfl rfl (by kernel_rfl) (fun K U=>?_);(try simp only[S3])
  go_simp;refine(di.out _ D.1).mono ?_;rintro e bi ⟨v,u,k,rfl,an,bj,b',az,ca⟩;obtain⟨au,ap,dm,rfl,rfl,bk,cb,cc,cd,ce,cf,cg,ch⟩:=Fy D.1 an az bj ca;obtain⟨ci,aq,bl,bm⟩:=h5 (D.1.below an) (And.intro cc (And.intro cd (And.intro ce (And.intro cf (And.intro cb ch))))) (b9.trans ((ht.of (κ:=ad) hM).trans cg)) (And.intro bj b');have cj:=bk;clear an bj b' az ca cc cd ce cf cg cb ch;simp only[Sl.v];refine U.out _ _ ci trivial (fun D=>?_);(try simp only[S4,S3])
  refine gZ.tq af 0 (gZ.sq 12 5 false []) (by kernel_rfl) D ?_;iterate 5(refine gZ.t1 rfl rfl (fun w' I=>by try simp only[S3];have dl:=I.box.all;go_simp;try rfl) ?_;try simp only[S4,S3])
  refine gZ.hH (fun D=>?_);clear D;refine gZ.ia rfl ?_;have dn:=aq.2.2.1.all;have dp:=aq.2.2.1.frozen 34;obtain⟨aF,bn⟩:=hK.nG aq.1 aq.2.1 aq.2.2.1 aq.2.2.2.1 34 (.slice ap.A ap.n ap.c) rfl;obtain⟨ar,ck,bo⟩:=hs aF (bl.trans bn) (kE aq.2.2.2.2.2 bn);clear aF bn b8 ci bl b9;obtain⟨dq,cl⟩:=ho (bi.setCell ⟨g,34,none⟩ (.slice ap.A ap.n ap.c));rw[cl]at ar ck bo;obtain⟨dr,V,dS⟩:=dm;simp only at bk cj bo⊢;subst bk;clear aq;go_upto_region 10 with(fail)
  clear cl dn dp cj;obtain⟨o,aN⟩:∃o:Tk,o={t with s:={t.s with me:=ak,en:=ap,pu:=al,po:=Sl.nil}}:=⟨_,rfl⟩;obtain⟨S,aE⟩:∃S:hl,S={c with ms:=Q,es:=E.drop V,us:=Y,ds:=[]}:=⟨_,rfl⟩;obtain⟨bp,aA,a1,cm⟩:=h5 (show hK au g o S r dq by rw[aN,aE];exact ar.out) (show TD o S r by rw[aN,aE];exact⟨aD.ep,aD.wt,aD.du,aD.dg,aD.xs,aD.os⟩) (show S.ms=Q∧o.s.p=t.s.p by rw[aN,aE];exact⟨rfl,rfl⟩) (And.intro aN aE);clear aN aE ar;go_wp2;go_loopw [58] (fun ax wr=>∃(i:Nat) (W:hr),ax=int i64 i∧i≤V∧yW o S r i W g wr∧ht κ w W wr∧jr (hL W wr) wr.heap.size dr V (E.take V)) (fun ax _=>V-(intOf ax).toNat)
  case atStart=>exact⟨0,au,rfl,h6,⟨o.s.ex,o.s.du,o.r.ou,o.r.st,S.ms,S.du,[],[],(by rw[yH,List.append_nil,List.append_nil];exact bp.out),rfl,by rw[a1.1];exact X.2.2.1,h6,h6,hj,fun _ _ h=>h⟩,ck.out,bo.out⟩
  case round=>
   obtain⟨i,W,rfl,dT,bq,J,a2⟩:=hrel;by_cases br:i<V
   ·have dt:=hZ br
    have dv:V≤600:=by have:=bm.1;have:=X.2.2.2;have bt:=b7.out;omega
    have aZ:i64.wrap ((i:Int)+1)=((i+1:Nat):Int):=by rw[IntKind.wrap_i64];omega
    obtain⟨ae,rfl,_,bh⟩:=(n4 a2).2 i br;have dw:wr.cell? (ae.add i)=some (int i64 ((E.take V).getD i 0)):=bh;have cn:(E.take V).getD i 0∈E:=by
     have co:i<(E.take V).length:=by rw[List.length_take];have:=bm.1;omega
     rw[iJ,List.getElem?_eq_getElem co];exact List.mem_of_mem_take (List.getElem_mem co)
    have la:=X.2.2.2.1 _ cn;obtain⟨O,cp⟩:∃O:Nat,(E.take V).getD i 0=(O:Int):=⟨((E.take V).getD i 0).toNat,by omega⟩;rw[cp]at dw la;obtain⟨aa,d',o',s',ms,du,ag,ah,F,ay,ao,bt,cq,cr,bu⟩:=bq;have bv:O<ms.length:=by rw[ay,a1.1];omega
    obtain⟨m,aj⟩:∃m,ms[O]?=some m:=⟨_,List.getElem?_eq_getElem bv⟩;have aO:=ao m (List.mem_of_getElem? aj);obtain⟨b,an,_,_,_,_⟩:=F.lx aj;have bw:o.s.me=⟨some ⟨b,0,none⟩,ms.length,o.s.me.c⟩:=an;obtain⟨ab,bx⟩:=hk ms.length;obtain⟨ai,ct⟩:=hk o.s.me.c;have dU:O<ab:=by rw[bx];exact bv
    have cu:o.s.me=⟨some ⟨b,0,none⟩,o.s.me.n,o.s.me.c⟩:=by rw[bw]
    have cv:o.s.me=⟨some ⟨b,0,none⟩,ab,ai⟩:=by rw[bx,ct];exact bw
    obtain⟨T,bz⟩:=hk (rG o.s.p m);obtain⟨cw,cx⟩:=hk (sN o.s.p m);obtain⟨cy,dx,a3,bA,a4⟩:=jg (fun Z=>BP o.s.p (by rw[a1.2];exact R.1) m aO.iq Z T bz cw cx) (show MG T by rw[bz,a1.2];exact FI (j6 R.1) aO) aj (show({o with s:={o.s with ex:=aa,du:=d'},r:={o.r with ou:=o',st:=s'}}:Tk).s.me=⟨some ⟨b,0,none⟩,({o with s:={o.s with ex:=aa,du:=d'},r:={o.r with ou:=o',st:=s'}}:Tk).s.me.n,({o with s:={o.s with ex:=aa,du:=d'},r:={o.r with ou:=o',st:=s'}}:Tk).s.me.c⟩from cu) cv;have dy:=qS S.xs ag;obtain⟨dz,dA,bB,aP,cz,G,dB⟩:=k2 (fun Z (dC:Below wr.heap.size wr Z)=>yG W g _ _ _ O m aj Z (F.below dC) aO.iq (by have:=aA.du;show du.length≤_;omega) (fun x bC=>(bu (-1) (by have:=aA.ep;omega) aA.dg x bC).am) aA.ep aA.wt (by have:=aA.xs;show(jV S.xs ag).length≤_;omega) (by have:=aA.os;show(r.os++ag).length≤_;rw[List.length_append];omega)) (show i≤600 by omega) F J a2 (And.intro ay (And.intro ao (And.intro bt (And.intro cq (And.intro cr bu))))) aO;clear bh cn la cp aj aO an bw bx ct cu cv bz cx dy F J a2 ay ao bt cq cr bu bv dv;go_wp2;refine gZ.rg (fun w'=>True) (fun w'=>hK W g ({o with s:={o.s with ex:=aa,du:=d'},r:={o.r with ou:=o',st:=s'}}) ({S with ms:=ms,xs:=jV S.xs ag,du:=du}) ({r with os:=r.os++ag,ss:=r.ss++ah}) w') 18 20 (by kernel_rfl) (by rintro _ _ (_|_) _ _ h<;>exact h) trivial (bB.below hM) fun af D=>?_;refine gZ.tq af 7 (gZ.sq 0 13 true []) (by kernel_rfl) D ?_;iterate 13((first|(refine gZ.tY 0 ((o.s.p.cs).toList) (fun w' I=>I.2.box) (by kernel_rfl) hQ (by kernel_rfl) rfl rfl rfl rfl rfl ?_)|(refine gZ.jK (.agg (m.enc).toArray) rfl (yieldsIf_load_mid (by rfl) 98 (.tmp 74) rfl b ((O*6)) rfl m.enc _ (fun w' I=>by have⟨J,F⟩:=gZ.mU I;exact(F.kK a3.out bA.out).1) jY rfl (by kernel_rfl)) ?_)|(refine gZ.t1 rfl rfl (fun w' I=>by try simp only[S3];first|(have⟨J,F⟩:=I;have bD:=F.box.cell (j:=33) (v:= .slice (some ⟨b,0,none⟩) ab ai) (l1 (t:={o with s:={o.s with ex:=aa,du:=d'},r:={o.r with ou:=o',st:=s'}}) (s:=⟨some ⟨b,0,none⟩,ab,ai⟩) a4.out);go_simp;try rfl)|(go_simp;try rfl)) ?_));try simp only[S4,S3])
    refine gZ.hH (fun D=>?_);refine gZ.lN 13 17 (n:=6) rfl rfl rfl (by kernel_rfl) (fun K U=>?_) (fun K U=>?_);focus
     (try simp only[S3])
     go_simp;refine hI (cy.out _) fun aQ aG=>?_;have a5:=g' (show Below wr.heap.size wr aQ from hJ hM aG);refine U.out _ _ trivial ((D.2 rfl).below aG) (fun D=>?_);(try simp only[S4,S3])
     refine gZ.tq af 3 [(14,true),(15,true),(16,false)] (by kernel_rfl) D ?_;iterate 3(refine gZ.t1 rfl rfl (fun w' I=>by try simp only[S3];first|(have⟨J,F⟩:=I;have bD:=F.box.cell (j:=33) (v:= .slice (some ⟨b,0,none⟩) ab ai) (l1 (t:={o with s:={o.s with ex:=aa,du:=d'},r:={o.r with ou:=o',st:=s'}}) (s:=⟨some ⟨b,0,none⟩,ab,ai⟩) a4.out);go_simp;try rfl)|(go_simp;try rfl)) ?_;try simp only[S4,S3])
     refine gZ.hH (fun D=>?_);refine gZ.hY 17 (n:=2) rfl rfl (by kernel_rfl) (fun K U=>?_);(try simp only[S3])
     go_simp;refine U.out _ _ trivial ((D.2 rfl).below (hz.alloc hj _)) (fun D=>?_);(try simp only[S4,S3])
     obtain⟨aB,a6⟩:=hg (ha.new aQ aQ.heap.size 98 jj rfl) (a5.alloc a5.size (.cells jj 98));have bE:=a5.size;obtain⟨cA,cB⟩:=ho (aQ.alloc (.cells jj 98));obtain⟨L,aR⟩:=ho aQ.heap.size;rw[cB]at aB a6⊢;rw[aR]at aB bE⊢;have a7:=g' bE;clear a5 cB aR bE D
    rotate_left;focus
     (try simp only[S3])
     go_simp;have aM:Below wr.heap.size wr (wr.drew.alloc (.cells jj 98)):=hM.alloc hj _;have cC:=g' (ha.new wr.drew wr.heap.size 98 jj rfl);refine U.out _ _ trivial ((D.2 rfl).below (hz.alloc hj _)) (fun D=>?_);(try simp only[S4,S3])
     refine gZ.hY 13 (n:=5) rfl rfl (by kernel_rfl) (fun K U=>?_);(try simp only[S3])
     go_simp;refine hI (cy.out _) fun cA aG=>?_;obtain⟨a6,aB⟩:=hg (hJ aM aG) (cC.to aG);clear aM cC;refine U.out _ _ trivial ((D.2 rfl).below aG) (fun D=>?_);(try simp only[S4,S3])
     refine gZ.tq af 2 [(14,true),(15,true),(16,false)] (by kernel_rfl) D ?_;iterate 3(refine gZ.t1 rfl rfl (fun w' I=>by try simp only[S3];first|(have⟨J,F⟩:=I;have bD:=F.box.cell (j:=33) (v:= .slice (some ⟨b,0,none⟩) ab ai) (l1 (t:={o with s:={o.s with ex:=aa,du:=d'},r:={o.r with ou:=o',st:=s'}}) (s:=⟨some ⟨b,0,none⟩,ab,ai⟩) a4.out);go_simp;try rfl)|(go_simp;try rfl)) ?_;try simp only[S4,S3])
     refine gZ.hH (fun D=>?_);obtain⟨L,aR⟩:=ho wr.heap.size;have a7:=g' (show wr.heap.size≤L by omega);have cD:(wr.drew).heap.size=wr.heap.size:=rfl;try rw[cD]
     clear cD;rw[aR]at aB⊢;clear aR D
    rotate_left;all_goals (
     refine gZ.jc 18 (n:=1) rfl rfl (by kernel_rfl) (by kernel_rfl) (fun K U=>?_);(try simp only[S3])
     rw[if_pos (by rfl)];refine wp_store_row 98 (.tmp 9) (.tmp 77) rfl L (hW T) rfl rfl 98 (jj) aB.out (by kernel_rfl) (by kernel_rfl) (by kernel_rfl) ?_;obtain⟨cE,aH⟩:=hg (aB.row (hW T)) (pJ a6.out a7.out (hW T));obtain⟨bi,cF⟩:=ho (cA.setRow L (hW T));rw[cF]at cE aH⊢;have dD:=g' (bB.fresh L a7.out);clear cF D a6 aB a7;refine U.out _ _ trivial (fun D=>?_);refine gZ.tq af 0 [(19,false)] (by kernel_rfl) D ?_;iterate 1(refine gZ.t1 rfl rfl (fun w' I=>by try simp only[S3];first|(have⟨J,F⟩:=I;go_simp;try rfl)|(go_simp;try rfl)) ?_;try simp only[S4,S3])
     refine gZ.hH (fun D=>?_);clear D;refine gZ.ia rfl ?_;cases cw
     ·go_wp2_with fail
      refine(dz.out _ aH.out).mono ?_;rintro e dV ⟨rfl,dE,bg,dF,dG,dH,cG,cH,cI,cJ⟩;obtain⟨bp,cK,cL⟩:=hs cI ((ht.of (κ:=W) aH.out).trans cJ) (And.intro cG cH);clear cI cJ cG cH;go_wp2;refine⟨⟨i+1,dE,by first|rfl|rw[aZ],by omega,⟨bg,dF,dG,s',ms.set O (kx m 4),dH,ag++[(O:Int)],ah,(by rw[←yI,←List.append_assoc];exact bp.out),by rw[List.length_set];exact G.1,nf G.2.1 (ve dB.out 4 (by omega)),?_,Nat.le_succ_of_le G.2.2.2.1,?_,fun cM cN bC=>cL.2 cM cN (G.2.2.2.2.2 cM cN bC)⟩,aP.trans cK.out,kE cz.out cK.out⟩,by simp[intOf];omega⟩
      ·have:=G.2.2.1;rw[List.length_append];simp only[List.length_singleton];omega
      have ay:=G.2.2.2.2.1;have ao:=cL.1;rw[List.length_append];simp only[List.length_singleton]at ay ao⊢;omega
     have dI:=g' (bB.below aH.out);have bl:=g' (aP.trans (ht.of aH.out));go_wp2;refine gZ.rg (fun w'=>ha w' L 98 (hW T)) (fun w'=>hK W g ({o with s:={o.s with ex:=aa,du:=d'},r:={o.r with ou:=o',st:=s'}}) ({S with ms:=ms,xs:=jV S.xs ag,du:=du}) ({r with os:=r.os++ag,ss:=r.ss++ah}) w') 8 9 (by kernel_rfl) (by rintro _ _ (_|_) _ _ h<;>exact h) cE.drew (dI.below hM) fun af D=>?_;refine gZ.tq af 1 (gZ.sq 0 8 true []) (by kernel_rfl) D ?_;iterate 8((first|(refine gZ.jK (.agg ((hW T).toList).toArray) rfl (yieldsIf_load_mid (by rfl) 98 (.tmp 9) rfl L (0) rfl ((hW T).toList) _ (fun w' I=>by have⟨J,F⟩:=gZ.mU I;exact fun j v az=>by rw[Nat.zero_add];exact J.cell (by simpa using az)) jY rfl (by kernel_rfl)) ?_)|(refine gZ.t1 rfl rfl (fun w' I=>by try simp only[S3];first|(have⟨J,F⟩:=I;have bD:=F.box.cell (j:=33) (v:= .slice (some ⟨b,0,none⟩) ab ai) (l1 (t:={o with s:={o.s with ex:=aa,du:=d'},r:={o.r with ou:=o',st:=s'}}) (s:=⟨some ⟨b,0,none⟩,ab,ai⟩) a4.out);go_simp;try rfl)|(go_simp;try rfl)) ?_));try simp only[S4,S3])
     refine gZ.hH (fun D=>?_);refine gZ.jc 8 (n:=0) rfl rfl (by kernel_rfl) (by kernel_rfl) (fun K U=>?_);(try simp only[S3])
     have a8:=D.2 rfl;rw[if_pos (by rfl)];refine wp_store_mid 98 (.tmp 91) (.tmp 90) rfl b (O*6) (hW T) rfl rfl (a8.kK a3.out bA.out).2.1 (by kernel_rfl) (by kernel_rfl) ?_;obtain⟨aF,a9⟩:=a8.nb (a8.kK a3.out bA.out).2.2 a3.out 0 (hW T).toList T (by simp[hW]) rfl;rw[Nat.add_zero]at aF a9;obtain⟨cO,ar,cP⟩:=hs (a9.keep D.1 dD.out) aF ((ht.of (κ:=W) aH.out).trans ((ht.of (κ:=W) hM).trans a9));clear a8 aF a9;generalize(bi.drew).setCells b (O*6) (hW T).toList=a' at ar cO cP⊢;refine U.out _ _ (cO.1) (fun D=>?_);clear D;refine gZ.ia rfl ?_;have dW:=ar.box.all;obtain⟨cQ,a0⟩:=hg (show s'.n≤200000 by have h:=ar.row.st.own.1;rw[List.length_map,Nat.mul_one]at h;have ao:(r.ss++ah).length=s'.n:=h;rw[List.length_append]at ao;have:=c0.out;have:=G.2.2.2.1;have:=dA.out;omega) (ar.below (hz.alloc hj (.cells #[int i64 O] 3)));go_wp2_with (at_builtin;refine wpList_append_lies _ rfl (.tmp 97) (.tmp 99) 40 rfl 0 3 c4 _ 1 8 kB c5 c6 c7 c8 rfl (by decide) (.slice s'.A s'.n s'.c) s'.n ((r.ss++ah).map iw) rfl a0.row.st.own ⟨a'.heap.size,0,none⟩ 1 1 [int i64 O] rfl rfl (kp _ _ _ _ (by simp)) (by intro v az;simp at az;subst az;rfl) (by omega) (by have:=cQ.out;unfold maxLen;omega) (by have:=cQ.out;omega) (h6) _ rfl ?_;intro dJ dK dX bF cR cS cT;have cU:(r.ss++ah).map iw++[int i64 (O:Int)]=(r.ss++(ah++[(O:Int)])).map iw:=(by rw[←List.append_assoc,List.map_append (l₁:=r.ss++ah)];rfl);rw[cU]at bF;obtain⟨cV,cW,ba,cX,cY⟩:=a0.uV _ cR bF (cS.imp id (fun e=>by rw[e];exact hj)) cT;have cZ:=g' (cP.trans (((ht.of ((Below.refl a'.heap.size a').alloc hj _)):ht W a' W _).trans cY));have dY:=ba.frozen 53;have dZ:=ba.all;have bG:=g' (hK.nG cV cW ba cX 53 (.slice (some ⟨dJ,0,none⟩) (s'.n+1) dK) rfl);clear cV cW ba cX cY bF cR cS cT cU);exact⟨⟨i+1,_,by first|rfl|rw[aZ],by omega,⟨aa,d',o',_,ms.set O T,du,ag,ah++[(O:Int)],bG.1,by rw[List.length_set];exact G.1,nf G.2.1 dx.out,Nat.le_succ_of_le G.2.2.1,(by have:=G.2.2.2.1;rw[List.length_append];simp only[List.length_singleton];omega),G.2.2.2.2.1,G.2.2.2.2.2⟩,aP.trans (cZ.trans bG.2),kE cz.out (cZ.trans bG.2)⟩,by simp[intOf];omega⟩)
   have dt:=h1 br;obtain rfl:i=V:=by omega
   obtain⟨dL,aP⟩:=hg bq J;clear bq J a2;go_wp2;go_end0;exact⟨rfl,W,ak,ap,al,Q,E.drop i,Y,i,X.1,X.2.1,X.2.2.2.2,bm.2,(by rw[List.length_drop];have:=b7.out;omega),aP.out,(by have h:=dL.out;rw[cm.1,cm.2]at h;exact h)⟩
theorem FK(κ:hr)(g:Nat)(t:Tk)(c:hl)(r:Rc)(w:World)(h:hK κ g t c r w)(o:t.r.q=false):Calls prog 65 #[.pointer (some ⟨g,0,none⟩)] w fun e w'=>e= .returned (.tuple #[])∧w=w':=by
 have z:=h.box.cell (j:=43) (v:= .bool false) (by rw[←o];rfl);go_enter func65,ntmps65;go_wp2;refine bodyPost_ret (results_none rfl _ _ _) rfl ?_;exact⟨rfl,rfl⟩
def qX(t:Tk)(c:hl)(m:hp)(b:Bool)(t':Tk)(c':hl):Prop:=
 (b=true∧c'=c∧((m.wh=3∧t'={t with s:={t.s with em:=true}})∨(m.wh=4∧t'={t with s:={t.s with em:=false}})∨(m.wh=1∧t'={t with s:={t.s with p:=m.p}})∨t'=t))∨
 (b=false∧c'=c∧t'=t)∨(b=true∧m.wh=2∧∃s us,us.length=c.us.length∧c'={c with us:=us}∧t'={t with s:={t.s with hN:=t.s.hN-m.am,pu:=s}})
def FL(κ:hr)(g:Nat)(t:Tk)(c:hl)(r:Rc)(m:hp)(w:World)(e:Ending)(w':World):Prop:=∃b t' c',e= .returned (.bool b)∧hK κ g t' c' r w'∧ht κ w κ w'∧qX t c m b t' c'
theorem FM(t:Tk)(p:hx):({t with s:={t.s with p:=p}}:Tk).cs=hf.splice t.cs 0 p.cs.toList:=by kernel_rfl
theorem FN(m:hp)(o:j<24):m.cs[2+j]?=m.p.cs.toList[j]? :=by
 have e:m.p.cs.toList=(m.cs.toList.drop 2).take 24:=rfl;rw[e,List.getElem?_take_of_lt o,List.getElem?_drop,Array.getElem?_toList]
theorem FO(κ:hr)(g:Nat)(t:Tk)(c:hl)(r:Rc)(m:hp)(w:World)(h:hK κ g t c r w)(ae: -9223372036854775808≤m.ta∧m.ta≤9223372036854775807)(af:m.am<18446744073709551616)(ag:t.s.hN<18446744073709551616)(ah:c.us.length≤1000000):
 Calls prog 125 #[.pointer (some ⟨g,0,none⟩),.agg m.cs] w (FL κ g t c r m w):=by
 have T:Below w.heap.size w (w.alloc (.cells m.cs 59)):=hz.alloc hj _;have G:ha (w.alloc (.cells m.cs 59)) w.heap.size 59 m.cs:=ha.new w _ _ _ rfl;have D:=h.below T;obtain⟨ai,E⟩:=hg (h.fresh w.heap.size hj) (ht.of (κ:=κ) T);obtain⟨O,U⟩:=ho (w.alloc (.cells m.cs 59));rw[U]at G D E;obtain⟨q,V⟩:=ho w.heap.size;rw[V]at G ai;obtain⟨I,W⟩:=hk m.wh;have aN:O.cell? ⟨q,1,none⟩=some (int i64 I):=by rw[W];exact G.cell (j:=1) rfl
 obtain⟨o,X,Q,aB,R⟩:=jg D G W U (And.intro ae (And.intro af (And.intro ag ah)));clear h T G D U W ae af ag ah;go_enter func125,ntmps125;go_upto_region 1 with(fail)
 rw[aB.out];try rw[V]
 clear V;by_cases aj:I=3
 ·subst aj
  have aC:=o.box.all;have aD:=o.box.frozen 31;have z:=g' (o.num (t':={t with s:={t.s with em:=true}}) rfl 31 (.bool true) rfl);go_wp2;go_ret;exact⟨true,_,c,rfl,z.1,E.trans z.2,.inl ⟨rfl,rfl,.inl ⟨Q.symm,rfl⟩⟩⟩
 have aO:=iM aj;by_cases ak:I=4
 ·subst ak
  have aC:=o.box.all;have aD:=o.box.frozen 31;have z:=g' (o.num (t':={t with s:={t.s with em:=false}}) rfl 31 (.bool false) rfl);go_wp2;go_ret;exact⟨true,_,c,rfl,z.1,E.trans z.2,.inl ⟨rfl,rfl,.inr (.inl ⟨Q.symm,rfl⟩)⟩⟩
 have aP:=iM ak;by_cases al:I=1
 ·subst al
  have z:=g' (o.uQ (t':={t with s:={t.s with p:=m.p}}) rfl 0 m.p.cs.toList (FM t m.p));have aE:=o.box.there 0 24 (by show 0+24≤56;omega);have aF:=g' (show O.rangeAt q 2 m.p.cs.toList from fun j v an=>X.cell (j:=2+j) (by have aG:j<24:=(jh.1 an).1;rw[←an];exact FN m aG));go_wp2_with (first|(refine wpList_load_mid rfl 24 (.tmp 22) rfl q 2 rfl m.p.cs.toList _ aF hQ rfl (by kernel_rfl) ?_)|(refine wpList_store_mid rfl 24 (.tmp 26) (.tmp 23) rfl g 0 m.p.cs rfl rfl aE (by kernel_rfl) (hx.one _) ?_;generalize O.setCells g 0 m.p.cs.toList=w3 at z⊢));go_ret;exact⟨true,_,c,rfl,z.1,E.trans z.2,.inl ⟨rfl,rfl,.inr (.inr (.inl ⟨Q.symm,rfl⟩))⟩⟩
 have aQ:=iM al;by_cases ao:I=2
 ·subst ao
  have F:t.s.hN<m.am∨m.am≤t.s.hN:=by omega
  rcases F with F|F;focus
   have aH:decide (t.s.hN<m.am)=true:=by simpa using F
  rotate_left;focus
   have aH:decide (t.s.hN<m.am)=false:=by simp;omega
   have aI:=g' F
  rotate_left;all_goals
   go_upto_region 9 with(fail)
   refine gZ.iP (fun w'=>hK κ g t c r w'∧ha w' q 59 m.cs) 8 (by kernel_rfl) (by rintro _ _ (_|_) _ _ h<;>exact h) (⟨o.below hM,X.drew⟩) fun Y A=>?_;refine gZ.tq Y 0 (gZ.sq 0 8 false []) (by kernel_rfl) A ?_;iterate 8(refine gZ.t1 rfl rfl (fun w' S=>by try simp only[S3];have aR:=S.1.box.all;have aS:=S.2.all;go_simp;try rfl) ?_;try simp only[S4,S3])
   refine gZ.hH (fun A=>?_);clear A;refine gZ.ia rfl ?_;obtain⟨Z,ap,aa⟩:=hs (o.below hM) X.drew (E.trans (ht.of (κ:=κ) hM));obtain⟨ab,aq⟩:=ho O.drew;rw[aq]at Z ap aa⊢;clear aq
  ·go_wp2
   go_ret;exact⟨false,t,c,rfl,Z,aa,.inr (.inl ⟨rfl,rfl,rfl⟩)⟩
  have aJ:u64.wrap ((t.s.hN:Int) -(m.am:Int))=((t.s.hN-m.am:Nat):Int):=by have:=R.2.2.1;have:=aI.out;rw[IntKind.wrap_u64];omega
  clear F;go_upto_region 11 with(fail)
  refine gZ.rg (fun w'=>True) (fun w'=>hK κ g t c r w'∧ha w' q 59 m.cs) 11 12 (by kernel_rfl) (by rintro _ _ (_|_) _ _ h<;>exact h) trivial (⟨Z.below hM,ap.drew⟩) fun Y A=>?_;refine gZ.tq Y 1 (gZ.sq 0 11 true []) (by kernel_rfl) A ?_;iterate 11(refine gZ.t1 rfl rfl (fun w' S=>by try simp only[S3];first|(have⟨hS,D⟩:=S;have aT:=D.1.box.all;have aU:=D.2.all;go_simp;try rfl)|(go_simp;try rfl)) ?_;try simp only[S4,S3])
  refine gZ.hH (fun A=>?_);refine gZ.jc 11 (n:=0) rfl rfl (by kernel_rfl) (by kernel_rfl) (fun K aK=>?_);(try simp only[S3])
  have J:=A.2 rfl;have aV:=J.1.box.all;have aW:=J.1.box.frozen 28;obtain⟨ar,ac⟩:=J.1.num (t':={t with s:={t.s with hN:=t.s.hN-m.am}}) rfl 28 (int u64 ((t.s.hN-m.am:Nat):Int)) rfl;obtain⟨au,av,aw⟩:=hs ar (ac.keep J.2 ai) (aa.trans ((ht.of (κ:=κ) hM).trans ac));clear J ar ac;go_simp;refine aK.out _ _ trivial (fun A=>?_);clear A;refine gZ.ia rfl ?_;have ax:(ab.setCell ⟨g,28,none⟩ (int u64 ((t.s.hN-m.am:Nat):Int))).drew=ab.drew.setCell ⟨g,28,none⟩ (int u64 ((t.s.hN-m.am:Nat):Int)):=rfl;try rw[ax]
  clear ax;generalize ab.drew.setCell ⟨g,28,none⟩ (int u64 ((t.s.hN-m.am:Nat):Int))=aL at au av aw⊢;have aX:=av.1.all;clear aJ;have aM:=g' (qR κ g ({t with s:={t.s with hN:=t.s.hN-m.am}}) c r m.ta m.am aL au R.2.1 R.1 R.2.2.2);go_wp2_with fail;refine aM.mono ?_;rintro e aY ⟨rfl,s,us,ay,az,aA⟩;have ad:=g' (And.intro ay (And.intro az aA));clear ay az aA;go_wp2;go_ret;exact⟨true,_,_,rfl,ad.2.1,aw.trans ad.2.2,.inr (.inr ⟨rfl,Q.symm,s,us,ad.1,rfl,rfl⟩)⟩
 have aZ:=iM ao;go_wp2;go_ret;exact⟨true,t,c,rfl,o,E,.inl ⟨rfl,rfl,.inr (.inr (.inr rfl))⟩⟩
def mD(m:Mem)(n:Nat):Mem:={m with hD:=n}
theorem yX{m:Mem}(h:MG m)(o:n≤1099511627776):MG (mD m n):=⟨⟨by simp only[mD];omega,h.iq.hP,h.iq.h9,h.iq.str,h.iq.own,h.iq.h3⟩,o,h.hP⟩
theorem FP{p:hx}(o:p.jd){m:Mem}(h:MG m):MG (lA m (j1 p (im m))):=by
 have r:=h.iq.h9;have z:=o.ic;exact⟨⟨h.iq.hD,h.iq.hP,by simp only[lA,j1,im];omega,by simp only[lA,j1,im];omega,h.iq.own,h.iq.h3⟩,h.hD,h.hP⟩
def mE(t:Tk)(c:hl)(o:Tk)(r:hl):Prop:=∃pu ms us,o={t with s:={t.s with pu:=pu}}∧r={c with ms:=ms,us:=us}∧ms.length=c.ms.length∧(∀m∈ms,MG m)∧us.length=c.us.length
theorem mE.mem{t r:Tk}{c o:hl}(h:mE t c r o){m:Mem}(z:MG m):mE t c r {o with ms:=o.ms.set i m}:=by
 obtain⟨pu,ms,us,rfl,rfl,A,D,E⟩:=h;exact⟨pu,_,us,rfl,rfl,by rw[List.length_set];exact A,nf D z,E⟩
theorem mE.FQ{t o:Tk}{c r:hl}(h:mE t c o r){pu:Sl}{us:List Nat}(z:us.length=r.us.length):mE t c {o with s:={o.s with pu:=pu}} {r with us:=us}:=by
 obtain⟨_,A,G,rfl,rfl,D,E,F⟩:=h;exact⟨pu,A,us,rfl,rfl,D,E,z.trans F⟩
theorem mE.facts{t r:Tk}{c o:hl}(h:mE t c r o):r.s.p=t.s.p∧r.s.me=t.s.me∧o.ms.length=c.ms.length∧(∀m∈o.ms,MG m)∧o.us.length=c.us.length:=by
 obtain⟨_,E,F,rfl,rfl,z,A,D⟩:=h;exact⟨rfl,rfl,z,A,D⟩
theorem FR(κ:hr)(g:Nat)(t:Tk)(c:hl)(r:Rc)(w:World)(h:hK κ g t c r w)(aM:iG t.s.p=true)(aN:t.s.p.cap≤1099511627776)(R:∀m∈c.ms,MG m)(am:t.s.me.n≤128)(aO:c.us.length≤1000000)(aP:TD t c r):
 Calls prog 67 #[.pointer (some ⟨g,0,none⟩)] w fun e w'=>e= .returned (.tuple #[])∧∃o E S,mE t c o E∧S.At g w'∧ht κ w S.κ w'∧oS o E r 128 S:=by
 obtain⟨ba,bb,I⟩:=hs h (show mE t c t c from⟨t.s.pu,c.ms,c.us,rfl,rfl,rfl,R,rfl⟩) (And.intro aM (And.intro aN (And.intro am (And.intro aO aP))));obtain⟨an,ao⟩:=hk t.s.me.A;obtain⟨J,Y⟩:=hk t.s.me.n;obtain⟨af,ap⟩:=hk t.s.me.c;have aQ:=g' (show t.s.me=⟨an,J,af⟩ by rw[ao,Y,ap]);have aq:=h.box.cell (j:=33) (v:= .slice an J af) (by rw[ao,Y,ap];rfl);have bz:J≤128:=by rw[Y];exact am
 have bc:=g' (show c.ms.length=J by rw[Y];exact h.kz);clear h aM aN R am aO aP ao Y ap;go_enter func67,ntmps67;go_upto_region 1 with(fail)
 clear aq;go_loopw [12] (fun ar wr=>∃(k:Nat) (o:Tk) (E:hl),ar=int i64 k∧k≤J∧hK κ g o E r wr∧mE t c o E∧ht κ w κ wr) (fun ar _=>J-(intOf ar).toNat)
 case atStart=>exact⟨0,t,c,rfl,h6,ba,bb,ht.refl _ _⟩
 case round=>
  obtain⟨k,o,E,rfl,bA,O,Q,T⟩:=hrel;by_cases au:k<J
  ·have bd:=hZ au
   have be:i64.wrap ((k:Int)+1)=((k+1:Nat):Int):=by rw[IntKind.wrap_i64];omega
   obtain⟨av,aw,aR,aS,aT⟩:=Q.facts;obtain⟨m,R⟩:∃m,E.ms[k]?=some m:=⟨_,iB (by rw[aR,bc.out];exact au)⟩;obtain⟨b,aU,_,_,_,_⟩:=O.lx R;have bf:an=some ⟨b,0,none⟩:=congrArg Sl.A (aQ.symm.trans (aw.symm.trans aU));subst bf;have ag:o.s.me=⟨some ⟨b,0,none⟩,J,af⟩:=aw.trans aQ;obtain⟨U,bB⟩:=hg (show o.s.me=⟨some ⟨b,0,none⟩,o.s.me.n,o.s.me.c⟩ by rw[ag]) ag;have aq:=O.box.cell (j:=33) (v:= .slice (some ⟨b,0,none⟩) J af) (l1 ag);have Z:=aS m (List.mem_of_getElem? R);obtain⟨z,aV⟩:=hk (min m.hD o.s.p.cap);obtain⟨rs,aW⟩:=hk (m.hD-z);have bg:=g' (fun W=>AT o.s.p (by rw[av];exact I.1) m.hD Z.iq.hD z rs aV aW W);have aX:z≤1099511627776:=by have:=Z.hD;omega
   have aY:rs<18446744073709551616:=by have:=Z.hD;omega
   obtain⟨V,ax,ay,az,aA,aB⟩:=ku R Z O Q T (And.intro av (And.intro aX (And.intro aY aT)));clear O Q T av aw aR aS aT R aU ag Z aV aW aX aY;go_upto_region 4 with(fail)
   clear aq;refine gZ.iP (fun w'=>hK κ g o E r w') 16 (by kernel_rfl) (by rintro _ _ (_|_) _ _ h<;>exact h) (ay.below hM) fun aa D=>?_;refine gZ.tq aa 6 (gZ.sq 0 10 false []) (by kernel_rfl) D ?_;iterate 10((first|(refine gZ.tY 0 ((o.s.p.cs).toList) (fun w' F=>F.box) (by kernel_rfl) hQ (by kernel_rfl) rfl rfl rfl rfl rfl ?_)|(refine gZ.t1 rfl rfl (fun w' F=>by try simp only[S3];have bh:=F.oU V U;go_simp;try rfl) ?_));try simp only[S4,S3])
   refine gZ.hH (fun D=>?_);refine gZ.hY 10 (n:=5) rfl rfl (by kernel_rfl) (fun K ab=>?_);(try simp only[S3])
   go_simp;refine hI (bg _) fun ac aC=>?_;obtain⟨ad,bi⟩:=hg (D.1.below aC) (aA.trans ((ht.of (κ:=κ) hM).trans (ht.of aC)));clear aC;refine ab.out _ _ ad trivial (fun D=>?_);(try simp only[S4,S3])
   refine gZ.tq aa 0 (gZ.sq 11 5 false []) (by kernel_rfl) D ?_;iterate 5(refine gZ.t1 rfl rfl (fun w' F=>by try simp only[S3];have bh:=F.oU V U;go_simp;try rfl) ?_;try simp only[S4,S3])
   refine gZ.hH (fun D=>?_);clear D;refine gZ.ia rfl ?_;have bj:=ad.oU V U;have aZ:=ad.vg V U 0 (by omega);rw[Nat.add_zero]at aZ;obtain⟨aD,aE⟩:=ad.nb (ad.kK V U).2.2 V 0 [int u64 z] (mD m z) (by simp) rfl;rw[Nat.add_zero]at aD aE;obtain⟨X,ah⟩:∃X:hl,X={E with ms:=E.ms.set k (mD m z)}:=⟨_,rfl⟩;obtain⟨aF,a0,a1,a2⟩:=h5 (show hK κ g o X r (ac.setCells b (k*6) [int u64 z]) by rw[ah];exact aD) (bi.trans aE) (show mE t c o X by rw[ah];exact az.mem (yX ax aB.2.1)) (show X.ms[k]?=some (mD m z) by rw[ah];exact List.getElem?_set_self (jh.1 V).1);clear aD aE ah;go_upto_region 6 with(fail)
   clear bj aZ;have a3:ac.setCell ⟨b,k*6,none⟩ (int u64 z)=ac.setCells b (k*6) [int u64 z]:=rfl;rw[a3];obtain⟨bk,a4⟩:=ho (ac.setCells b (k*6) [int u64 z]);rw[a4]at aF a0⊢;clear a3 a4;have bl:=aF.lO a2 U 4 _ rfl;have bm:=g' (qR κ g o X r m.own rs bk aF aB.2.2.1 (by have:=ax.iq.own;omega) (by rw[a1.facts.2.2.2.2];exact I.2.2.2.1));go_wp2_with fail;refine bm.mono ?_;rintro e bC ⟨rfl,bn,bo,a5,aG,a6⟩;obtain⟨G,ai⟩:∃G:Tk,G={o with s:={o.s with pu:=bn}}:=⟨_,rfl⟩;obtain⟨ae,aj⟩:∃ae:hl,ae={X with us:=bo}:=⟨_,rfl⟩;rw[←ai,←aj]at aG;obtain⟨bp,bq,aH,ak,aI⟩:=jg aG (a0.trans a6) (show mE t c G ae by rw[ai,aj];exact a1.FQ a5) (show ae.ms[k]?=some (mD m z) by rw[aj];exact a2) (show G.s.me=⟨some ⟨b,0,none⟩,G.s.me.n,G.s.me.c⟩ by rw[ai];exact U);have br:=g' (fun W=>wM G.s.p (by rw[aH.facts.1];exact I.1) (im (mD m z)) W);clear a5 aG a6 ai aj bl;go_upto_region 7 with(fail)
   refine gZ.rg (fun w'=>True) (fun w'=>hK κ g G ae r w') 13 14 (by kernel_rfl) (by rintro _ _ (_|_) _ _ h<;>exact h) trivial (bp.below hM) fun aa D=>?_;refine gZ.tq aa 4 (gZ.sq 0 10 true []) (by kernel_rfl) D ?_;iterate 10((first|(refine gZ.tY 0 ((G.s.p.cs).toList) (fun w' F=>F.2.box) (by kernel_rfl) hQ (by kernel_rfl) rfl rfl rfl rfl rfl ?_)|(refine gZ.jK (.agg ((im (mD m z)).enc).toArray) rfl (yieldsIf_load_mid (by rfl) 96 (.tmp 56) rfl b ((k*6)) rfl ((im (mD m z)).enc) _ (fun w' F=>by have⟨T,O⟩:=gZ.mU F;exact(O.oT ak aI).1) km rfl (by kernel_rfl)) ?_)|(refine gZ.t1 rfl rfl (fun w' F=>by try simp only[S3];first|(have⟨T,O⟩:=F;go_simp;try rfl)|(go_simp;try rfl)) ?_));try simp only[S4,S3])
   refine gZ.hH (fun D=>?_);refine gZ.hY 10 (n:=3) rfl rfl (by kernel_rfl) (fun K ab=>?_);(try simp only[S3])
   go_simp;refine hI (br _) fun bD a7=>?_;have bt:=g' (bq.trans ((ht.of (κ:=κ) hM).trans (ht.of a7)));refine ab.out _ _ trivial ((D.2 rfl).below a7) (fun D=>?_);(try simp only[S4,S3])
   refine gZ.tq aa 1 (gZ.sq 11 2 true []) (by kernel_rfl) D ?_;iterate 2(refine gZ.t1 rfl rfl (fun w' F=>by try simp only[S3];first|(have⟨T,O⟩:=F;go_simp;try rfl)|(go_simp;try rfl)) ?_;try simp only[S4,S3])
   refine gZ.hH (fun D=>?_);refine gZ.jc 13 (n:=0) rfl rfl (by kernel_rfl) (by kernel_rfl) (fun K ab=>?_);(try simp only[S3])
   have al:=D.2 rfl;rw[if_pos (by rfl)];refine wp_store_mid 96 (.tmp 60) (.tmp 58) rfl b (k*6) (j1 G.s.p (im (mD m z))).cs rfl rfl (al.oT ak aI).2 (by kernel_rfl) (by kernel_rfl) ?_;obtain⟨aJ,aK⟩:=al.nb (al.kK ak aI).2.2 ak 0 (j1 G.s.p (im (mD m z))).cs.toList (lA (mD m z) (j1 G.s.p (im (mD m z)))) (by simp[Std.cs]) rfl;rw[Nat.add_zero]at aJ aK;obtain⟨bu,bv⟩:=hg aJ (bt.trans aK);clear al aJ aK;refine ab.out _ _ trivial (fun D=>?_);clear D;refine gZ.ia rfl ?_;go_wp2;exact⟨⟨k+1,G,_,by first|rfl|rw[be],by omega,bu,aH.mem (FP (by rw[aH.facts.1];exact j6 I.1) (yX ax aB.2.1)),bv⟩,by simp[intOf];omega⟩
  have bd:=h1 au;obtain rfl:k=J:=by omega
  have bw:=g' (fun W (bx:hK κ g o E r W)=>yJ κ g o E r W bx (by
   obtain⟨_,_,_,rfl,rfl,_,_,_⟩:=Q;exact⟨I.2.2.2.2.ep,I.2.2.2.2.wt,I.2.2.2.2.du,I.2.2.2.2.dg,I.2.2.2.2.xs,I.2.2.2.2.os⟩) Q.facts.2.2.2.1 (by rw[Q.facts.2.1];exact I.2.2.1))
  obtain⟨ay,az,aA⟩:=hs O Q T;clear O Q T;go_wp2_with fail;refine(bw _ ay).mono ?_;rintro e ac ⟨rfl,S,a8,a9,a'⟩;have aL:=g' (And.intro a8 (And.intro a9 a'));clear a8 a9 a';go_wp2;go_end0;exact⟨rfl,o,E,S,az,aL.1,aA.trans aL.2.1,aL.2.2⟩
theorem tm{κ:hr}{w':World}{s:Sl}{D:List hp}(h:js L w' s D)(E:∀k,L≤k→κ k=0):s.Ok∧hV (hL κ w') w'.heap.size s.A s.n 33 (flat hp.enc D)∧∀m∈D,m.At (hL κ w') w'.heap.size:=by
 obtain⟨G,Q,I,J⟩:=h;refine⟨G,?_,fun m K=>?_⟩
 ·obtain⟨s',o,R,_,O,F⟩:=jZ I
  have e:s'=s:=by unfold Sl.v at o;cases s;cases s';simp only at o;cases o;rfl
  subst e;exact⟨F.1,Rd.hid F.2 fun r e=>E _ (O r e)⟩
 obtain⟨g,_,o⟩:=J m K;exact⟨⟨o.at_.ys.1,o.at_.ys.2.1,Rd.hid o.at_.ys.2.2 fun r e=>E _ (o.y r e).1⟩,⟨o.at_.ns.1,o.at_.ns.2.1,Rd.hid o.at_.ns.2.2 fun r e=>E _ (o.z r e).1⟩,o.at_.yo,o.at_.no⟩
structure l4 (m:hp):Prop where
 ta: -9223372036854775808≤m.ta∧m.ta≤9223372036854775807
 am:m.am<18446744073709551616
 pa:m.wh=1→iG m.p=true
 yl:m.yh.n≤1000000
 nl:m.nh.n≤1000000
def jW(m m':hp):Prop:=m'.wh=m.wh∧m'.p=m.p∧m'.ta=m.ta∧m'.am=m.am∧m'.en=m.en∧m'.yh.n=m.yh.n∧m'.nh.n=m.nh.n
theorem jW.refl(m:hp):jW m m:=⟨rfl,rfl,rfl,rfl,rfl,rfl,rfl⟩
theorem jW.trans{a b c:hp}(h:jW a b)(k:jW b c):jW a c:=⟨k.1.trans h.1,k.2.1.trans h.2.1,k.2.2.1.trans h.2.2.1,k.2.2.2.1.trans h.2.2.2.1,k.2.2.2.2.1.trans h.2.2.2.2.1,k.2.2.2.2.2.1.trans h.2.2.2.2.2.1,k.2.2.2.2.2.2.trans h.2.2.2.2.2.2⟩
theorem jW.lL{m m':hp}(h:jW m m')(k:l4 m):l4 m':=⟨by rw[h.2.2.1];exact k.ta,by rw[h.2.2.2.1];exact k.am,fun e=>by rw[h.2.1];exact k.pa (h.1.symm.trans e),by rw[h.2.2.2.2.2.1];exact k.yl,by rw[h.2.2.2.2.2.2];exact k.nl⟩
theorem jW.st(m:hp)(x:Int):jW m (m.lz x):=⟨rfl,rfl,rfl,rfl,rfl,rfl,rfl⟩
theorem jW.pd(m:hp)(x:Int):jW m (m.tf x):=⟨rfl,rfl,rfl,rfl,rfl,rfl,rfl⟩
theorem jW.vs(m:hp){y z:Sl}(o:y.n=m.yh.n)(r:z.n=m.nh.n):jW m (m.ly y z):=⟨rfl,rfl,rfl,rfl,rfl,o,r⟩
theorem jW.cl{m m':hp}(h:vb E m m'):jW m m':=by
 rcases h with rfl|⟨_,_,rfl|⟨x,rfl⟩⟩
 ·exact jW.refl _
 ·exact jW.st _ _
 exact jW.pd _ _
def r4(A:Int)(r z:List hp):Prop:=z.length=r.length∧∀(j:Nat) (m:hp),r[j]?=some m→∃o,z[j]?=some o∧jW m o∧(o.st=m.st∨(m.st=1∧m.en≤A∧(o.st=2∨o.st=4)))
theorem FT{o r A:List hp}(h:k0 o r)(k:nc E n r A):r4 E o A:=by
 refine⟨k.1.trans h.1,fun j m I=>?_⟩;obtain⟨y,z,J,K,O⟩:=h.2 j m I;obtain⟨Q,R,D,_⟩:=k.2 j _ J;refine⟨Q,R,(jW.vs m K O).trans (jW.cl D),?_⟩;rcases D with rfl|⟨F,G,rfl|⟨x,rfl⟩⟩
 ·exact .inl rfl
 ·exact .inr ⟨F,G,.inr rfl⟩
 exact .inr ⟨F,G,.inl rfl⟩
theorem yY{q:Bool}{o:List hp}{x:Int}(h:x∈ka E q o k):∃(j:Nat) (m:hp),x=(j:Int)∧o[j]?=some m∧kF E q m=true:=by
 unfold ka at h;obtain⟨j,r,rfl⟩:=List.mem_map.1 h;have:=(List.mem_filter.1 r).2;cases hm:o[j]? with
 |none=>rw[hm]at this;simp at this
 |some m=>rw[hm]at this;exact⟨j,m,rfl,hm,this⟩
theorem FU(o:Int)(q:Bool)(r:List hp)(k:Nat):(ka o q r k).Nodup:=by
 unfold ka;rw[List.Nodup,List.pairwise_map];exact(List.Pairwise.filter _ (List.nodup_range (n:=k))).imp fun h e=>h (by omega)
structure oV (yZ:List hp) (L:List Int) (k:Nat) (q:Bool) (p p':hx) (em FV:Bool) (mk:List hp) (zs:List Int):Prop where
 len:mk.length=yZ.length
 mo:∀(j:Nat) (m2:hp),yZ[j]?=some m2→∃m',mk[j]?=some m'∧jW m2 m'∧((j:Int)∉L.take k→m'.st=m2.st)∧((j:Int)∈L.take k→m'.st=3∨m'.st=4)
 dn:∀i∈zs,i∈L.take k∧∃(j:Nat) (m':hp),i=(j:Int)∧mk[j]?=some m'∧m'.st=3
 par:p'=p∨(zs≠[]∧q=true)
 qY:FV=em∨zs≠[]
theorem oV.zero(o:List hp)(L:List Int)(q:Bool)(p:hx)(r:Bool):oV o L 0 q p p r r o []:=
 ⟨rfl,fun _ z A=>⟨z,A,jW.refl _,fun _=>rfl,fun h=>by simp at h⟩,fun i D=>by simp at D,.inl rfl,.inl rfl⟩
theorem oV.next{K:List hp}{L:List Int}{q:Bool}{p S T:hx}{U V:Bool}{W D:List hp}{G:hp}{d:Bool}(h:oV K L k q p S M U W R)(X:L[k]?=some (j:Int))(ad:L.Nodup)
 (O:k0 W D) (Y:D[j]?=some G) (ae:T=S∨(d=true∧q=true)) (af:V=U∨d=true):
 oV K L (k+1) q p T M V (D.set j (G.lz (if d then 3 else 4))) (if d then R++[(j:Int)]else R):=by
 have E:L.take (k+1)=L.take k++[(j:Int)]:=by rw[List.take_add_one,X];rfl
 have Z:=(jh.1 Y).1;have ag:(j:Int)∉L.take k:=fun ah=>by
  obtain⟨i,r,e⟩:=List.getElem_of_mem ah;rw[List.getElem_take]at e;rw[List.length_take]at r;obtain⟨ai,aj⟩:=jh.1 X;exact List.pairwise_iff_getElem.1 ad i k (by omega) ai (by omega) (e.trans aj.symm)
 have ak:∀(i:Nat) (F:hp),K[i]?=some F→∃m',(D.set j (G.lz (if d then 3 else 4)))[i]?=some m'∧jW F m'∧((i:Int)∉L.take (k+1)→m'.st=F.st)∧((i:Int)∈L.take (k+1)→m'.st=3∨m'.st=4):=fun i F al=>by
  obtain⟨m',I,J,Q,am⟩:=h.mo i F al;obtain⟨y,z,A,aa,ab⟩:=O.2 i m' I;by_cases e:j=i
  ·subst e
   rw[Y]at A;injection A with A;refine⟨_,List.getElem?_set_self Z,?_,fun o=>absurd (by rw[E];simp) o,fun _=>?_⟩
   ·rw[A];exact(J.trans (jW.vs m' aa ab)).trans (jW.st _ _)
   cases d
   ·exact .inr rfl
   exact .inl rfl
  refine⟨_,(List.getElem?_set_ne e).trans A,J.trans (jW.vs m' aa ab),fun o=>Q fun an=>o (by rw[E];exact List.mem_append_left _ an),fun o=>am ?_⟩;rw[E]at o;rcases List.mem_append.1 o with o|o
  ·exact o
  have:=List.mem_singleton.1 o;exact absurd (by omega) e
 have ac:∀i∈R,i∈L.take (k+1)∧∃(a:Nat) (m':hp),i=(a:Int)∧(D.set j (G.lz (if d then 3 else 4)))[a]?=some m'∧m'.st=3:=fun i r=>by
  obtain⟨I,a,m',rfl,J,Q⟩:=h.dn i r;obtain⟨y,z,A,_,_⟩:=O.2 a m' J;refine⟨by rw[E];exact List.mem_append_left _ I,a,_,rfl,(List.getElem?_set_ne (fun e=>ag (by rw[e];exact I))).trans A,Q⟩
 refine⟨by rw[List.length_set,O.1];exact h.len,ak,?_,?_,?_⟩
 ·cases d
  ·exact ac
  intro i r;rcases List.mem_append.1 r with r|r
  ·exact ac i r
  obtain rfl:=List.mem_singleton.1 r;exact⟨by rw[E];simp,j,_,rfl,List.getElem?_set_self Z,rfl⟩
 ·rcases ae with rfl|⟨rfl,ao⟩
  ·rcases h.par with e|⟨ap,aq⟩
   ·exact .inl e
   refine .inr ⟨?_,aq⟩;cases d
   ·exact ap
   show R++[(j:Int)]≠[];simp
  exact .inr ⟨by show R++[(j:Int)]≠[];simp,ao⟩
 rcases af with rfl|rfl
 ·rcases h.qY with e|e
  ·exact .inl e
  right
  cases d
  ·exact e
  show R++[(j:Int)]≠[];simp
 exact .inr (by show R++[(j:Int)]≠[];simp)
end hB
end Go.Proofs.YtffbipddbnkdjaaGreat
