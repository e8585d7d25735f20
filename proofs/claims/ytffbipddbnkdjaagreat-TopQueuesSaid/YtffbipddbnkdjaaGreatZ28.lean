/- What functions compute at any arguments, and plain facts: A tick's moots; What Fits gives a tick: good motions, good parameters; its members, lines, deposits, motions, marks and sums are good; members, Exit and Entry in blocks of their own and others. Conditions: those that each theorem names. -/
import Derived.Test.YtffbipddbnkdjaaGreatZ27
set_option maxRecDepth 100000
set_option maxHeartbeats 40000000
set_option linter.all false
open Go Go.Proofs.Tryz
open Go.Value(int)
open Go.IntKind(i64 u64)
variable{A T:Option Addr}{n g b L k B i x a m j q c p s r d h u N y:Nat}{E z:Int}{P:Program}{w W X Z:World}{e t:TypeId}{f:Nat→Value}{l:List Bool}{V U:Value}{Y:List Nat}{S:List Value}{R:List Int}{Q:Array Value}{O:List (List Nat)}{M:Bool}{K:Ending}{J:Addr}{I:Nat→Nat}{H:Option Nat}
namespace Go.Proofs.YtffbipddbnkdjaaGreat
namespace hB
open RowKit
open hG hf hC h0 hU
def nI(t:Tk)(c:hl)(z:List hp)(L:List Int)(k:Nat)(t':Tk)(c':hl)(A:List Int):Prop:=∃mo p em hN pu D o us,t'={t with s:={t.s with mo:=mo,p:=p,em:=em,hN:=hN,pu:=pu},r:={t.r with dn:=D}}∧c'={c with mo:=o,us:=us}∧us.length=c.us.length∧hN≤t.s.hN∧iG p=true∧oV z L k t.r.q t.s.p p t.s.em em o A
theorem qX.mt{t o F:Tk}{c G K:hl}{Q:List hp}{L:List Int}{m I:hp}{b:Bool}(h:nI t c Q L k o G R)(S:qX o G m b F K)(O:jW I m)(T:l4 I)(J:kF E t.r.q I=true):
 F.s.mo=o.s.mo∧F.r.dn=o.r.dn∧K.mo=G.mo∧∃p em hN pu us,F={o with s:={o.s with p:=p,em:=em,hN:=hN,pu:=pu}}∧K={G with us:=us}∧us.length=c.us.length∧hN≤t.s.hN∧iG p=true∧(p=o.s.p∨(b=true∧t.r.q=true))∧(em=o.s.em∨b=true):=by
 obtain⟨X,p,em,hN,pu,Y,Z,us,rfl,rfl,z,A,D,aa⟩:=h;have U:m.wh=1→t.r.q=true:=fun e=>by
  have V:I.wh=1:=O.1.symm.trans e;unfold kF at J;rw[V]at J;simp at J;exact J.2
 rcases S with⟨rfl,rfl,⟨_,rfl⟩|⟨_,rfl⟩|⟨e,rfl⟩|rfl⟩|⟨rfl,rfl,rfl⟩|⟨rfl,_,s,W,hu,rfl,rfl⟩
 ·exact⟨rfl,rfl,rfl,p,true,hN,pu,us,rfl,rfl,z,A,D,.inl rfl,.inr rfl⟩
 ·exact⟨rfl,rfl,rfl,p,false,hN,pu,us,rfl,rfl,z,A,D,.inl rfl,.inr rfl⟩
 ·exact⟨rfl,rfl,rfl,m.p,em,hN,pu,us,rfl,rfl,z,A,(jW.lL O T).pa e,.inr ⟨rfl,U e⟩,.inl rfl⟩
 ·exact⟨rfl,rfl,rfl,p,em,hN,pu,us,rfl,rfl,z,A,D,.inl rfl,.inl rfl⟩
 ·exact⟨rfl,rfl,rfl,p,em,hN,pu,us,rfl,rfl,z,A,D,.inl rfl,.inl rfl⟩
 exact⟨rfl,rfl,rfl,p,em,hN-m.am,s,W,rfl,rfl,hu.trans z,by omega,D,.inl rfl,.inl rfl⟩
theorem FW{L:List Int}{x:Int}(o:L.Nodup)(r:L[k]?=some x):x∉L.take k:=fun z=>by
 obtain⟨i,A,e⟩:=List.getElem_of_mem z;rw[List.getElem_take]at e;rw[List.length_take]at A;obtain⟨D,E⟩:=jh.1 r;exact List.pairwise_iff_getElem.1 o i k (by omega) D (by omega) (e.trans E.symm)
theorem oV.lL{r:List hp}{L:List Int}{q:Bool}{p E:hx}{F:Bool}{z:List hp}(h:oV r L k q p E M F z R)(G:∀m∈r,l4 m):∀m∈z,l4 m:=fun m I=>by
 obtain⟨j,A,e⟩:=List.getElem_of_mem I;have D:j<r.length:=by rw[←h.len];exact A
 obtain⟨m',o,J,_⟩:=h.mo j _ (List.getElem?_eq_getElem D);rw[List.getElem?_eq_getElem A,e]at o;injection o with o;subst o;exact J.lL (G _ (List.getElem_mem D))
theorem r4.lL{r z:List hp}(h:r4 E r z)(F:∀m∈r,l4 m):∀m∈z,l4 m:=fun m G=>by
 obtain⟨j,A,e⟩:=List.getElem_of_mem G;have D:j<r.length:=by rw[←h.1];exact A
 obtain⟨m',o,I,_⟩:=h.2 j _ (List.getElem?_eq_getElem D);rw[List.getElem?_eq_getElem A,e]at o;injection o with o;subst o;exact I.lL (F _ (List.getElem_mem D))
theorem nI.next{t F o:Tk}{c z G:hl}{I:List hp}{L:List Int}{tn:List Int}{m A J:hp}{D:List hp}{s6 hd6:Sl}{b:Bool}(h:nI t c I L k F z R)(K:qX F z m b o G)(O:jW A m)(Q:l4 A)(S:kF E t.r.q A=true)
 (T:L[k]?=some (j:Int)) (U:L.Nodup) (V:k0 z.mo D) (W:D[j]?=some J) (X:tn=if b then R++[(j:Int)]else R):
 nI t c I L (k+1) {o with s:={o.s with mo:=s6},r:={o.r with dn:=hd6}} {G with mo:=D.set j (J.lz (if b then 3 else 4))} tn:=by
 obtain⟨_,_,_,Y,Z,aa,ab,ac,rfl,rfl,ad,ae,af,ag,ah⟩:=qX.mt h K O Q S;obtain⟨mo,p,aj,ak,pu,al,am,us,rfl,rfl,an,ao,ap,ai⟩:=h;subst X;exact⟨s6,Y,Z,aa,ab,hd6,_,ac,rfl,rfl,ad,ae,af,ai.next T U V W ag ah⟩
theorem nI.mk{t z:Tk}{c o:hl}{r:List hp}{L:List Int}(h:nI t c r L k z o R):o.mo.length=r.length:=by
 obtain⟨D,p,E,F,pu,G,mk,us,rfl,rfl,I,J,K,A⟩:=h;exact A.len
theorem FX(κ:hr)(g:Nat)(t:Tk)(c:hl)(r:Rc)(w:World)(h:hK κ g t c r w)(a4:iG t.s.p=true)(V:∀m∈c.ms,MG m)(bx:t.s.me.n≤128)(aJ:∀m∈c.mo,l4 m)(bz:t.s.mo.n≤100000)(au:0≤t.s.ep∧t.s.ep≤2147483647)(bA:0≤t.s.p.iK∧t.s.p.iK≤1000000)(bB:t.s.hN<18446744073709551616)(bC:c.us.length≤1000000)(bD:r.dn.length≤100000):
 Calls prog 66 #[.pointer (some ⟨g,0,none⟩)] w fun e w'=>e= .returned (.tuple #[])∧∃bE t' c' I L F,r4 t.s.ep c.mo I∧(∀x∈L,∃(j:Nat) (m:hp),x=(j:Int)∧I[j]?=some m∧m.st=2)∧nI t c I L L.length t' c' F∧hK bE g t' c' {r with dn:=r.dn++F} w'∧ht κ w bE w':=by
 obtain⟨bF,a5,bG,ab⟩:=h5 (fun W (D:hK κ g t c r W)=>EL t.s.p (j6 a4) t.s.mo.A t.s.mo.n t.s.mo.c c.mo t.s.me.A t.s.me.n t.s.me.c c.ms t.s.ep W D.row.n.seen.mo D.row.n.seen.mv (fun m V=>⟨(aJ m V).yl,(aJ m V).nl⟩) (by omega) D.row.jv.none D.row.me.row bx (fun m cp=>(V m cp).hP) bA au) (show t.s.mo.n=c.mo.length from(h.row.n.mo.len hp.len (by omega)).symm) h (And.intro a4 (And.intro V (And.intro aJ (And.intro bz (And.intro bB (And.intro bC bD))))));clear h a4 V bx aJ bz au bA bB bC bD;go_enter func66,ntmps66;go_wp2;refine gZ.rg (fun w'=>True) (fun w'=>hK κ g t c r w') 25 26 (by kernel_rfl) (by rintro _ _ (_|_) _ _ h<;>exact h) trivial (bG.below hM) fun av G=>?_;refine gZ.tq av 5 (gZ.sq 0 21 true []) (by kernel_rfl) G ?_;iterate 21((first|(refine gZ.tY 0 ((t.s.p.cs).toList) (fun w' O=>O.2.box) (by kernel_rfl) hQ (by kernel_rfl) rfl rfl rfl rfl rfl ?_)|(refine gZ.t1 rfl rfl (fun w' O=>by try simp only[S3];first|(have⟨al,D⟩:=O;have cq:=D.box.all;go_simp;try rfl)|(go_simp;try rfl)) ?_));try simp only[S4,S3])
 refine gZ.hH (fun G=>?_);refine gZ.hY 21 (n:=4) rfl rfl (by kernel_rfl) (fun K aw=>?_);(try simp only[S3])
 go_simp;have X:=G.2 rfl;refine(bF _ X).mono ?_;rintro e cr ⟨o,c3,I,rfl,an,ao,bH,a6⟩;obtain⟨ap,aK,af,bI⟩:=h5 (X.below a6) (tm (κ:=κ) an X.fresh) (And.intro an.2.1 (FT ao bH)) ((ht.of (κ:=κ) (Below.drew (Below.refl w.heap.size w))).trans (ht.of a6));clear X an ao bH a6;refine aw.out _ _ trivial ap (fun G=>?_);(try simp only[S4,S3])
 refine gZ.tq av 1 (gZ.sq 22 3 true []) (by kernel_rfl) G ?_;iterate 3(refine gZ.t1 rfl rfl (fun w' O=>by try simp only[S3];first|(have⟨al,D⟩:=O;have cq:=D.box.all;go_simp;try rfl)|(go_simp;try rfl)) ?_;try simp only[S4,S3])
 refine gZ.hH (fun G=>?_);refine gZ.jc 25 (n:=0) rfl rfl (by kernel_rfl) (by kernel_rfl) (fun K aw=>?_);(try simp only[S3])
 have ag:=ap.box.all;have a7:=ap.box.frozen 38;obtain⟨bJ,bK⟩:=ap.kZ (ap.row.te o I aK.1 aK.2.1 aK.2.2) 38 (.slice o.A o.n o.c) rfl;obtain⟨a8,bL⟩:=hg bJ (bI.trans bK);clear bJ bK;go_simp;refine aw.out _ _ trivial (fun G=>?_);clear G;refine gZ.ia rfl ?_;obtain⟨ct,a9⟩:=ho (cr.setCell ⟨g,38,none⟩ (.slice o.A o.n o.c));rw[a9]at a8 bL;try rw[a9]
 clear a9 ag a7;clear ap bI bG bF;obtain⟨Q,aL⟩:∃Q:Tk,Q={t with s:={t.s with mo:=o}}:=⟨_,rfl⟩;obtain⟨ac,aM⟩:∃ac:hl,ac={c with mo:=I}:=⟨_,rfl⟩;obtain⟨a',Y,bM⟩:=hs (show hK κ g Q ac r ct by rw[aL,aM];exact a8) (show Q.s.mo=o∧ac.mo=I∧Q.s.p=t.s.p∧Q.s.em=t.s.em∧Q.s.ep=t.s.ep∧Q.r.q=t.r.q by rw[aL,aM];exact⟨rfl,rfl,rfl,rfl,rfl,rfl⟩) (And.intro aL aM);clear aL aM a8;obtain⟨ah,au⟩:=hk t.s.ep;obtain⟨q,bN⟩:=hk t.r.q;have cu:=g' (fun W (D:hK κ g Q ac r W)=>uo o I ah q W (by have h:=D.row.n.seen.mo;rw[Y.1,Y.2.1]at h;exact h) aK.1 (by rw[af.1,af.2.1,←a5.out];exact ab.2.2.2.1));have ag:=a'.box.cell (j:=38) (v:= .slice o.A o.n o.c) (by rw[←Y.1];rfl);have ax:=g' (And.intro au bN);clear au bN ag;go_wp2;refine gZ.iP (fun w'=>hK κ g Q ac r w') 18 (by kernel_rfl) (by rintro _ _ (_|_) _ _ h<;>exact h) (a'.below hM) fun av G=>?_;refine gZ.tq av 2 (gZ.sq 0 15 false (gZ.sq 17 1 false [])) (by kernel_rfl) G ?_;iterate 16(refine gZ.t1 rfl rfl (fun w' O=>by try simp only[S3];have cv:=O.box.cell (j:=38) (v:= .slice o.A o.n o.c) (by rw[←Y.1];rfl);have aq:=O.box.cell (j:=29) (v:=int i64 ah) (by rw[ax.1,←Y.2.2.2.2.1];rfl);have aN:=O.box.cell (j:=43) (v:= .bool q) (by rw[ax.2,←Y.2.2.2.2.2];rfl);go_simp;try rfl) ?_;try simp only[S4,S3])
 refine gZ.hH (fun G=>?_);refine gZ.hY 15 (n:=1) rfl rfl (by kernel_rfl) (fun K aw=>?_);(try simp only[S3])
 go_simp;have X:=G.1;refine(cu _ X).mono ?_;rintro e c4 ⟨v,rfl,T,ba⟩;have bO:=g' (X.below ba);obtain⟨cw,rfl,bP,cx,bQ⟩:=n5 T X.fresh;obtain⟨bb,ay,cy⟩:=hs (kD.2 bQ) bP (bL.trans ((ht.of (κ:=κ) hM).trans (ht.of ba)));clear X T ba bQ cx bP;simp only[Sl.v];refine aw.out _ _ bO trivial (fun G=>?_);(try simp only[S4,S3])
 refine gZ.tq av 0 [(16,false)] (by kernel_rfl) G ?_;iterate 1(refine gZ.t1 rfl rfl (fun w' O=>by try simp only[S3];have cv:=O.box.cell (j:=38) (v:= .slice o.A o.n o.c) (by rw[←Y.1];rfl);have aq:=O.box.cell (j:=29) (v:=int i64 ah) (by rw[ax.1,←Y.2.2.2.2.1];rfl);have aN:=O.box.cell (j:=43) (v:= .bool q) (by rw[ax.2,←Y.2.2.2.2.2];rfl);go_simp;try rfl) ?_;try simp only[S4,S3])
 refine gZ.hH (fun G=>?_);clear G;refine gZ.ia rfl ?_;(try simp only[S4])
 obtain⟨cz,az,c5⟩:=cw;simp only at bb ay⊢;obtain⟨L,aO⟩:=hk (ka ah q I o.n);rw[←aO]at bb ay;have aA:=g' (And.intro aO (show L.length≤100000 by rw[aO];have ai:=yR ah q I o.n;have Z:=af.1;have bR:=af.2.1;have aB:=a5.out;have cA:=ab.2.2.2.1;omega));clear aO a';have cB:=g' (show nI t c I L 0 Q ac [] by rw[bM.1,bM.2];exact⟨o,t.s.p,t.s.em,t.s.hN,t.s.pu,t.r.dn,I,c.us,rfl,rfl,rfl,hj,ab.1,oV.zero _ _ _ _ _⟩);go_wp2;go_loopw [49] (fun bc wr=>∃(k:Nat) (R:hr) (U:Tk) (aj:hl) (F:List Int),bc=int i64 k∧k≤az∧F.length≤k∧nI t c I L k U aj F∧hK R g U aj {r with dn:=r.dn++F} wr∧ht κ w R wr∧jr (hL R wr) wr.heap.size cz az L) (fun bc _=>az-(intOf bc).toNat)
 case atStart=>exact⟨0,κ,Q,ac,[],rfl,h6,hj,cB,(by rw[List.append_nil];exact bO),cy,bb⟩
 case round=>
  obtain⟨k,R,U,aj,F,rfl,c6,bS,aP,D,al,aQ⟩:=hrel;by_cases aR:k<az
  ·have cC:=hZ aR
   have bT:i64.wrap ((k:Int)+1)=((k+1:Nat):Int):=by have:=aA.2;have:=ay.out;rw[IntKind.wrap_i64];omega
   have bd:k<L.length:=by rw[←ay.out];exact aR
   obtain⟨cD,rfl,_,bU⟩:=(n4 aQ).2 k aR;obtain⟨x,ad⟩:∃x,L[k]?=some x:=⟨_,List.getElem?_eq_getElem bd⟩;have bV:wr.cell? (cD.add k)=some (int i64 (L.getD k 0)):=bU;rw[iJ,ad]at bV;simp only[Option.getD_some]at bV;obtain⟨j,aS,rfl,aC,aD⟩:=yY (by rw[←aA.1];exact List.mem_of_getElem? ad:x∈ka ah q I o.n);have bW:=aP;obtain⟨mo,c7,c8,cE,c9,da,ae,cF,bX,be,ai,Z,bR,aB⟩:=aP;obtain⟨m',aT,bf,bY,_⟩:=aB.mo j aS aC;have bg:L.Nodup:=by rw[aA.1];exact FU _ _ _ _
   have bZ:m'.st=2:=by rw[bY (FW bg ad)];unfold kF at aD;simp at aD;exact aD.1.1
   have aU:=af.2.lL ab.2.2.1;have b0:=aB.lL aU;have bh:=bf.lL (aU aS (List.mem_of_getElem? aC));have aV:aj.mo=ae:=by rw[be]
   have bi:=D.row.n.seen.mo;have aW:U.s.mo.n=ae.length:=by have:=bi.len hp.len (by omega);rw[aV]at this;exact this.symm
   have aX:j<ae.length:=(jh.1 aT).1;obtain⟨ak,b1,b2⟩:=rS D.row.jv bi hp.len (by rw[aW];exact aX) (by rw[aV];exact aT) (by omega);obtain⟨aa,aY⟩:=hk U.s.mo.n;obtain⟨aE,b3⟩:=hk U.s.mo.c;have aZ:=g' (show U.s.mo=⟨some ⟨ak,0,none⟩,aa,aE⟩ by rw[aY,b3,←b1]);have db:j<aa:=by rw[aY,aW];exact aX
   have ag:=D.box.cell (j:=38) (v:= .slice (some ⟨ak,0,none⟩) aa aE) (by have h:=aZ.out;show(#[U.s.mo.v]:Array Value)[0]?=_;rw[h];rfl);obtain⟨cG,cH,J,E,cI,cJ,cK⟩:=k2 b2 (FO R g U aj _ m' wr D bh.ta bh.am (by rw[bX];have:=ab.2.2.2.2.1;show cE<_;omega) (by rw[be];show cF.length≤_;rw[ai];exact ab.2.2.2.2.2.1)) (And.intro bW (And.intro aC (kY (show kF ah t.r.q aS=true by rw[←ax.2];exact aD) (And.intro bf (kY (aU aS (List.mem_of_getElem? aC)) (And.intro bZ aT)))))) (And.intro ad (And.intro bg (And.intro b0 (And.intro aV (And.intro aX (And.intro bS bd)))))) al aQ (show aa=ae.length by rw[aY];exact aW);clear bU ad aD bW ai Z bR aB aT bf bY bg bZ aU b0 bh aV bi aW aX b1 b2 aY b3 al aQ D aC bS bd bX be;go_wp2_with (first|(refine wpList_load_mid rfl 59 (.tmp 60) (by rfl) ak (j*33) (by first|rfl|(simp only[hG.k1];rfl)) m'.enc _ cG nE rfl (by kernel_rfl) ?_));refine cH.mono ?_;rintro e ar cL;obtain⟨b,S,dc,rfl,aF,bj,bk⟩:=cL;have f:=qX.mt J.1 bk J.2.2.2.1 J.2.2.2.2.1 J.2.2.1;have aq:=f.1;have aN:=f.2.1;have bl:=f.2.2.1.trans E.2.2.2.1;clear f;have b4:hV ar ar.heap.size (some ⟨ak,0,none⟩) aa 33 (flat hp.enc ae):=by have h:=aF.row.n.seen.mo;rw[aq,aZ.out,bl]at h;exact h
   have b5:∀m∈ae,m.At ar ar.heap.size:=by have h:=aF.row.n.seen.mv;rw[bl]at h;exact h
   have b6:aa≤1000000:=by have ai:=J.1.mk;rw[E.2.2.2.1,←cK.out]at ai;have Z:=af.2.1;have aB:=a5.out;have cA:=ab.2.2.2.1;omega
   have cM:=g' (EI (some ⟨ak,0,none⟩) aa aE ae (j:Int) b ar b4 b5 (fun m V=>⟨(E.2.2.1 m V).yl,(E.2.2.1 m V).nl⟩) b6 (fun h=>by cases h));have cN:=aF.box.cell (j:=38) (v:= .slice (some ⟨ak,0,none⟩) aa aE) (by show(#[S.s.mo.v]:Array Value)[0]?=_;rw[aq,aZ.out];rfl);obtain⟨b7,cO,cP,b8,cQ⟩:=jg aF (cI.trans bj) (kE cJ bj) bk (And.intro aq aN);clear b4 b5 b6 aF bj bk aq aN bl ag;go_wp2_with fail;refine cM.mono ?_;rintro e b9 ⟨v,cR,rfl,bm,cS⟩;rcases cS with⟨bn,_⟩|⟨_,_,s6,cT,m6,m7,ao,a0,bo,T⟩
   ·exact absurd (show(0:Int)≤(j:Int)∧(j:Int)<(ae.length:Int) by have:=E.2.2.2.2.1;omega) bn
   rw[Int.toNat_natCast]at a0 T;obtain⟨y,z,b',cU,cV⟩:=ao.2 j m' J.2.2.2.2.2.2;have aG:=b';rw[a0]at aG;injection aG with aG;have bn:cR=0:=bo.1.2 (by rw[aG];exact J.2.2.2.2.2.1);subst bn;obtain⟨rfl,an⟩:=T rfl;have cW:=bo.2;subst cW;have bp:=g' (tm (κ:=R) an b7.fresh);have aH:=b7.below bm;have ag:=aH.box.cell (j:=38) (v:= .slice (some ⟨ak,0,none⟩) aa aE) (by show(#[S.s.mo.v]:Array Value)[0]?=_;rw[cQ.1,aZ.out];rfl);have a7:=aH.box.frozen 38;obtain⟨ca,bq⟩:=aH.kZ (aH.row.te s6 _ bp.1 bp.2.1 bp.2.2) 38 (.slice s6.A s6.n s6.c) rfl;have aI:=g' ca;have br:ht R ar R b9:=ht.of bm;obtain⟨bt,bu,a1⟩:=hs (cO.trans (br.trans bq)) (kE cP (br.trans bq)) (kY (show k0 aj.mo cT by rw[E.2.2.2.1];exact ao) a0);clear aH ca bq br bm ao a0 bo T an b' cU cV aG cN;obtain⟨a2,bv⟩:=ho (b9.setCell ⟨g,38,none⟩ (.slice s6.A s6.n s6.c));rw[bv]at aI bt bu;go_upto_region 8 with(fail)
   try rw[bv]
   clear bv ag a7;cases b
   ·have cX:=g' (J.1.next (s6:=s6) (hd6:=S.r.dn) (tn:=F) b8 J.2.2.2.1 J.2.2.2.2.1 J.2.2.1 E.1 E.2.1 a1.1 a1.2 rfl)
    go_wp2;exact⟨⟨k+1,R,_,_,F,by first|rfl|rw[bT],by omega,Nat.le_succ_of_le E.2.2.2.2.2.1,cX,aI,bt,bu⟩,by simp[intOf];omega⟩
   obtain⟨cY,cZ,c0,c1,c2⟩:=info_parts qf;have dd:=aI.box.all;obtain⟨cb,cc⟩:=hg (show S.r.dn.n≤300000 by have h:=aI.row.dn.own.1;rw[List.length_map,Nat.mul_one]at h;have Z:(r.dn++F).length=S.r.dn.n:=h;rw[List.length_append]at Z;have:=ab.2.2.2.2.2.2;have:=E.2.2.2.2.2.1;have:=E.2.2.2.2.2.2;have:=aA.2;omega) (aI.below (hz.alloc hj (.cells #[int i64 (j:Int)] 3)));go_wp2_with (at_builtin;refine wpList_append_lies _ rfl (.tmp 87) (.tmp 89) 40 rfl 0 3 cY _ 1 8 kB cZ c0 c1 c2 rfl (by decide) (.slice S.r.dn.A S.r.dn.n S.r.dn.c) S.r.dn.n ((r.dn++F).map iw) rfl cc.row.dn.own ⟨a2.heap.size,0,none⟩ 1 1 [int i64 (j:Int)] rfl rfl (kp _ _ _ _ (by simp)) (by intro v cd;simp at cd;subst cd;rfl) (by omega) (by have:=cb.out;unfold maxLen;omega) (by have:=cb.out;omega) (h6) _ rfl ?_;intro ce cf de T cg ch ci;have cj:(r.dn++F).map iw++[int i64 (j:Int)]=(r.dn++(F++[(j:Int)])).map iw:=(by rw[←List.append_assoc,List.map_append (l₁:=r.dn++F)];rfl);rw[cj]at T;obtain⟨ck,cl,a3,cm,cn⟩:=cc.uW _ cg T (ch.imp id (fun e=>by rw[e];exact hj)) ci;have co:=g' (((ht.of ((Below.refl a2.heap.size a2).alloc hj _)):ht R a2 R _).trans cn);have df:=a3.frozen 54;have dg:=a3.all;have bw:=g' (hK.nG ck cl a3 cm 54 (.slice (some ⟨ce,0,none⟩) (S.r.dn.n+1) cf) rfl);clear ck cl a3 cm cn T cg ch ci cj);exact⟨⟨k+1,_,_,_,F++[(j:Int)],by first|rfl|rw[bT],by omega,(by rw[List.length_append];have:=E.2.2.2.2.2.1;simp only[List.length_singleton];omega),J.1.next (s6:=s6) (hd6:=⟨some ⟨ce,0,none⟩,S.r.dn.n+1,cf⟩) (tn:=F++[(j:Int)]) b8 J.2.2.2.1 J.2.2.2.2.1 J.2.2.1 E.1 E.2.1 a1.1 a1.2 rfl,bw.1,bt.trans (co.trans bw.2),kE bu (co.trans bw.2)⟩,by simp[intOf];omega⟩
  have cC:=h1 aR;obtain rfl:k=az:=by omega
  have E:=g' (And.intro aP (And.intro D al));clear aP D al aQ;go_wp2;go_end0;exact⟨rfl,R,U,aj,I,L,F,af.2,fun x ad=>by rw[aA.1]at ad;obtain⟨j,m,e,ai,Z⟩:=yY ad;exact⟨j,m,e,ai,(by unfold kF at Z;simp at Z;exact Z.1.1)⟩,by rw[←ay.out];exact E.1,E.2.1,E.2.2⟩
theorem FY{m:hp}(h:nZ m=true)(r:m.yh.n≤1000000)(z:m.nh.n≤1000000):l4 m:=by
 unfold nZ at h;simp only[Bool.and_eq_true,decide_eq_true_eq]at h;obtain⟨_,A,_,_,_,_,D,_,_,o⟩:=h;exact⟨by omega,by omega,fun e=>by rw[if_pos e]at o;exact o,r,z⟩
theorem FZ{s:hA}{c:hl}(h:mZ s c=true):iG s.p=true∧(0≤s.ep∧s.ep≤1073741824)∧(0≤s.calm∧s.calm≤1073741824)∧qO s.pu.n c.us=true∧pC s c=true:=by
 unfold mZ at h;simp only[Bool.and_eq_true,decide_eq_true_eq]at h;exact h
theorem F0{s:hA}{c:hl}(h:oN s c=true)(A:∀m∈c.mo,m.yh.n≤1000000∧m.nh.n≤1000000):s.mo.n≤32∧(∀m∈c.mo,l4 m)∧∀m∈c.mo,1≤m.st∧m.st≤4:=by
 unfold oN at h;simp only[Bool.and_eq_true,decide_eq_true_eq]at h;have D:∀m∈c.mo,nZ m=true:=fun m o=>by
  have r:=List.all_eq_true.1 h.2 m o;unfold p6 at r;simp only[Bool.and_eq_true]at r;exact r.1
 refine⟨h.1,fun m o=>FY (D m o) (A m o).1 (A m o).2,fun m o=>?_⟩;have z:=D m o;unfold nZ at z;simp only[Bool.and_eq_true,decide_eq_true_eq]at z;exact z.2.2.2.1
theorem nI.law{t t':Tk}{c c':hl}{I:List hp}{L:List Int}(h:nI t c I L k t' c' R)(D:r4 E c.mo I)(Q:∀x∈L,∃(j:Nat) (m:hp),x=(j:Int)∧I[j]?=some m∧m.st=2):
 c'.mo.length=c.mo.length∧(t'.s.p=t.s.p∨(R≠[]∧t.r.q=true))∧(t'.s.em=t.s.em∨R≠[])∧
   (∀i∈R,∃(j:Nat) (m m':hp),i=(j:Int)∧c.mo[j]?=some m∧c'.mo[j]?=some m'∧m'.st=3∧m.st≤2)∧
   ∀(j:Nat) (m m':hp),c.mo[j]?=some m→c'.mo[j]?=some m'→m'.st=2→m.st=1→m'.en≤E:=by
 obtain⟨ad,p,ae,af,pu,ag,ah,us,rfl,rfl,_,_,_,z⟩:=h;refine⟨z.len.trans D.1,z.par,z.qY,fun i S=>?_,fun j m m' T U ai aj=>?_⟩
 ·obtain⟨F,j,m',rfl,V,W⟩:=z.dn i S
  obtain⟨X,J,e,A,K⟩:=Q _ (List.mem_of_mem_take F);obtain rfl:j=X:=by omega
  have O:j<c.mo.length:=by rw[←D.1];exact(jh.1 A).1
  obtain⟨Y,G,_,o⟩:=D.2 j _ (List.getElem?_eq_getElem O);rw[A]at G;cases G;exact⟨j,_,m',rfl,List.getElem?_eq_getElem O,V,W,by rcases o with o|⟨o,_⟩<;>omega⟩
 obtain⟨J,G,Z,o⟩:=D.2 j m T;obtain⟨Y,A,K,aa,ab⟩:=z.mo j J G;rw[U]at A;cases A;by_cases F:(j:Int)∈L.take k
 ·rcases ab F with e|e<;>omega
 have e:=aa F;rcases o with o|⟨_,ac,_⟩
 ·omega
 rw[K.2.2.2.2.1,Z.2.2.2.2.1];exact ac
structure FG (s:hA) (c:hl):Prop where
 hc:iG s.p=true
 ep:0≤s.ep∧s.ep≤1073741824
 calm:0≤s.calm∧s.calm≤1073741824
 us:c.us.length≤64
 pn:s.pu.n≤64
 ms:∀m∈c.ms,MG m
 ml:c.ms.length≤128
 mn:s.me.n=c.ms.length
 xv:∀z∈c.xs,0≤z∧z<(c.ms.length:Int)
 xl:c.xs.length≤128
 ev:∀z∈c.es,0≤z∧z<(c.ms.length:Int)
 el:c.es.length≤128
 dl:c.ds.length≤256
 ds:∀d∈c.ds,qW c.ms.length d
 mo:∀m∈c.mo,l4 m
 kT:c.mo.length≤32
 uK:s.mo.n=c.mo.length
 HM:∀m∈c.mo,1≤m.st∧m.st≤4
 mm:c.mm.length=16
 rl:c.rs.length≤8
 rs:∀i,i<c.rs.length→(hq.ro c.rs i).length=16
 room:s.gen+s.hO≤s.hX∧s.hX≤4611686018427387904
 hN:s.hN≤4611686018427387904
 h7:s.h7≤4611686018427387904
theorem F1{p:hx}(z:iG p=true){m:Mem}(o:my m)(h:lX p m=true):MG m:=by
 have r:=j6 z;have A:=r.ix;have D:=r.lH.cap;unfold lX at h;rw[Bool.and_eq_true]at h;have h:=h.2;unfold rH at h;split at h
 ·unfold rv at h
  simp only[Bool.and_eq_true,decide_eq_true_eq]at h;exact⟨o,by omega,by omega⟩
 split at h
 ·simp only[Bool.and_eq_true,decide_eq_true_eq]at h
  exact⟨o,by omega,by omega⟩
 split at h
 ·simp only[Bool.and_eq_true,decide_eq_true_eq]at h
  exact⟨o,by omega,by omega⟩
 cases h
theorem y0{o:List Mem}(h:mW o R E=true):R.length≤o.length:=by
 unfold mW at h;rw[Bool.and_eq_true,decide_eq_true_eq]at h;rw[h.2];exact List.length_filter_le _ _
theorem y1{s:hA}{c:hl}(z:Lay s c w L)(F:jE s c)(U:mZ s c=true)(G:rV s c)(A:mB s c=true):FG s c:=by
 obtain⟨I,V,W,J,D⟩:=FZ U;unfold mB at A;rw[Bool.and_eq_true,Bool.and_eq_true]at A;obtain⟨X,o,r⟩:=A;obtain⟨ao,Y,Z⟩:=F0 X F.mo;unfold qO at J;rw[Bool.and_eq_true,decide_eq_true_eq]at J;unfold pC at D;simp only[Bool.and_eq_true,decide_eq_true_eq]at D;obtain⟨ap,aa,K,O⟩:=D;have ab:c.ms.length=s.me.n:=z.me.len Mem.len (by omega);have ac:c.mo.length=s.mo.n:=z.mo.len hp.len (by omega);have aq:c.ds.length=s.po.n:=z.po.len h'.len (by omega);have ar:=z.pu.1;unfold p7 at o;rw[Bool.and_eq_true]at o;have o:=o.1;have o:hq.qI c.mm c.rs:=by unfold qP at o;simpa using o
 obtain⟨ad,ae,af⟩:=o;unfold hC.o9 at r;rw[decide_eq_true_eq]at r;have Q:∀bs:List Nat,jQ.jd bs 128→bs.length=16:=fun bs h=>h.2.2.1;have ag:(mA s c).nU=iH (c.ms.map Mem.hD)+iH c.us+iH (kh c.ds [])+iH (kh [] c.du)+s.hN:=rfl;have ah:(mA s c).hX=s.hX:=rfl;have ai:(mA s c).gen=s.gen:=rfl;have aj:(mA s c).hO=s.hO:=rfl;have ak:(mA s c).h7=s.h7:=rfl;rw[ah,ai,aj,ag,ak]at r;exact⟨I,V,W,by omega,by omega,fun m R=>F1 I (F.ms m R) (by have:=List.all_eq_true.1 aa m R;rw[Bool.and_eq_true]at this;exact this.1),by omega,ab.symm,yp O,by have:=y0 O;omega,yp K,by have:=y0 K;omega,
  by have:=G.1;omega,fun d al=>by
   have E:=G.2 d al;unfold p9 rT at E;simp only[Bool.and_eq_true,decide_eq_true_eq]at E;obtain⟨⟨S,am⟩,_,T⟩:=E;have au:=S.1;have av:=S.2.1;exact⟨by have:=am.2;omega,by omega,fun e=>by rw[e]at T;simp at T;omega⟩,
  Y,by omega,ac.symm,Z,Q _ ae,ad,fun i an=>Q _ (af i an),⟨r.2.1,r.1⟩,by omega,by omega⟩
structure DI (n:Nat) (s:hA) (c:hl):Prop where
 len:c.du.length≤n
 dg:∀x∈c.du,DG (-1) (s.ep+50) x
structure qZ (s:hA) (c:hl) (s':hA) (c':hl) (p:kJ) (r:Rc):Prop where
 hc:iG s.p=true
 act:p.act<18446744073709551616
 qk:p.act=(ju c.ms).sum
 hO:p.hO=mP s.p p.act (s.gen+s.hO) s.hX p.mode
 jB:p.jB≤p.hO
 kept:p.kept=p.hO-p.jB
 h7:p.h7≤4611686018427387904
 j5:p.j5≤4611686018427387904
 room:s.gen+s.hO≤s.hX∧s.hX≤4611686018427387904
 hX:s'.hX=s.hX
 ep:s'.ep=s.ep+1
 ss:(r.ss.length:Int)≤s.p.iy
 ls:∃(k:Nat) (new:List Int),r.ls=(jV c.xs new).take k∧(k:Int)≤s.p.iy∧∀x∈new,x∈r.os
 dl:c'.du.length≤c.du.length+512
 dg:∀x∈c'.du,DG s.ep (s.ep+50) x
 kT:c'.mo.length=c.mo.length
 par:s'.p=s.p∨(r.dn≠[]∧p.q=true)
 qY:s'.em=s.em∨r.dn≠[]
 dn:∀i∈r.dn,∃(j:Nat) (m m':hp),i=(j:Int)∧c.mo[j]?=some m∧c'.mo[j]?=some m'∧m'.st=3∧m.st≤2
 ends:∀(j:Nat) (m m':hp),c.mo[j]?=some m→c'.mo[j]?=some m'→m'.st=2→m.st=1→m'.en≤s.ep
theorem y2{s:Sl}(h:s.A=some J):s.v.ownBlock=some J.block:=by rw[Sl.v,h];rfl
def oW(κ:hr)(s:Sl)(x:Nat):hr:=fun k=>if s.v.ownBlock=some k then x else κ k
theorem y3{κ:hr}{s:Sl}(h:s.v.ownBlock≠some k):oW κ s x k=κ k:=if_neg h
theorem vi{κ:hr}{s:Sl}{xs:List Value}(o:w.ownsRow b e g s.v n xs)(r:k<b):oW κ s x k=κ k:=
 y3 fun h=>by have:=(o.lt k h).1;omega
theorem r5{κ:hr}{s:Sl}{xs:List Value}(o:w.ownsRow b e g s.v s.n xs):iY (oW κ s x) w e g x s xs:=
 ⟨o.mono (h6),fun _ r=>if_pos (y2 r)⟩
theorem F2{κ:hr}{s:Sl}{xs:List Value}(z:W.ownsRow w.heap.size e g s.v n xs)(o:Below w.heap.size w W):ht κ w (oW κ s x) W:=
 ⟨o.os,o.tape,o.output,o.size,fun _ r=>vi z r,fun k r _=>o.block k r⟩
theorem F3{κ:hr}{s:Sl}{xs:List Value}(o:W.ownsRow w.heap.size e g s.v n xs)(r:Below w.heap.size w W)(h:∀k,w.heap.size≤k→κ k=0):∀k,W.heap.size≤k→oW κ s x k=0:=fun k z=>by
 rw[y3 fun e=>by have:=(o.lt k e).2;omega];exact h k (Nat.le_trans r.size z)
def jw(κ:hr):hr:=fun k=>if κ k=9 then 0 else κ k
theorem vj{κ:hr}(h:κ k=0∨κ k=9):jw κ k=0:=by unfold jw;split<;>omega
theorem tp{κ:hr}(h:κ k≠9):jw κ k=κ k:=if_neg h
theorem y4{κ:hr}{p:Addr}{v:Value}(h:(hL κ w).cell? p=some v):(hL (jw κ) w).cell? p=some v:=by
 obtain⟨o,r⟩:=rQ h;rw[p5 (vj (.inl r))];exact o
theorem Rd.jw{κ:hr}(h:Rd (hL κ w) B A n f):Rd (hL (jw κ) w) B A n f:=fun j o=>by
 obtain⟨r,e,z,D⟩:=h j o;exact⟨r,e,z,y4 D⟩
theorem r6{κ:hr}{bs:List Nat}(h:hq.ie (hL κ w) B A n bs):hq.ie (hL (jw κ) w) B A n bs:=⟨h.1,h.2.1,Rd.jw h.2.2⟩
theorem vk{κ:hr}{xs:List Value}(h:hV (hL κ w) B A n g xs):hV (hL (jw κ) w) B A n g xs:=⟨h.1,Rd.jw h.2⟩
theorem y5{κ:hr}{m:hp}(h:m.At (hL κ w) B):m.At (hL (jw κ) w) B:=⟨r6 h.ys,r6 h.ns,h.yo,h.no⟩
theorem F4{κ:hr}{rs:List (List Nat)}(h:hq.ki (hL κ w) B A n rs):hq.ki (hL (jw κ) w) B A n rs:=⟨h.1,fun i o=>by
 obtain⟨r,z,D,e,E,F,G,I⟩:=h.2 i o;exact⟨r,z,D,e,E,y4 F,r6 G,I⟩⟩
theorem kt.jw{κ:hr}{s:hA}{c:hl}(h:kt s c (hL κ w) L):kt s c (hL (jw κ) w) L:=
 ⟨⟨h.pu.1,h.pu.2.1,Rd.jw h.pu.2.2⟩,vk h.po,vk h.du,vk h.mo,fun m o=>y5 (h.mv m o),r6 h.ma,F4 h.ri⟩
theorem iY.jw{κ:hr}{s:Sl}{xs:List Value}(h:iY κ w e n x s xs)(z:x≠9):iY (jw κ) w e n x s xs:=
 ⟨h.own,fun o r=>by rw[tp (by rw[h.jl o r];exact z),h.jl o r]⟩
theorem iY.y6{κ:hr}{s:Sl}{xs:List Value}(h:iY κ w e g 9 s xs):hV (hL (hB.jw κ) w) w.heap.size s.A s.n g xs:=
 ⟨h.row.1,Rd.hid h.row.2 fun o r=>vj (.inr (h.jl o r))⟩
def iQ(L:Nat):hr:=fun k=>if k<L then 10 else 0
structure jO (L:Nat) (κ:hr) (s:hA) (c:hl) (w:World):Prop where
 low:∀k,k<L→κ k=10
 le:L≤w.heap.size
 fresh:∀k,w.heap.size≤k→κ k=0
 n:kt s c (hL κ w) w.heap.size
 jL:s.pu.Ok
 jG:s.po.Ok
 jH:s.du.Ok
 jv:s.mo.Ok
 jM:s.ma.Ok
 jN:s.ri.Ok
 me:iY κ w 98 6 2 s.me (flat Mem.enc c.ms)
 en:iY κ w 3 1 4 s.en (c.es.map iw)
 ex:iY κ w 3 1 3 s.ex (c.xs.map iw)
def hA.bare(s:hA):hA:={s with pu:=Sl.nil,me:=Sl.nil,en:=Sl.nil,ex:=Sl.nil,po:=Sl.nil,du:=Sl.nil,mo:=Sl.nil,ma:=Sl.nil,ri:=Sl.nil}
def hl.nil:hl:=⟨[],[],[],[],[],[],[],[],[]⟩
theorem n6(r:n=0):Rd w L A n f:=fun j o=>absurd o (by omega)
theorem ni(κ:hr)(w:World)(e:TypeId)(o x:Nat):iY κ w e o x Sl.nil []:=⟨World.ownsRow_nil _ _ _ _,fun r h=>by cases h⟩
theorem jO.start(s:hA)(w:World):jO w.heap.size (iQ w.heap.size) s.bare hl.nil w:=
 ⟨fun k r=>if_pos r,hj,fun k r=>if_neg (by omega),⟨⟨rfl,fun u o=>(by cases o),n6 rfl⟩,⟨rfl,n6 rfl⟩,⟨rfl,n6 rfl⟩,⟨rfl,n6 rfl⟩,fun m z=>(by cases z),⟨rfl,fun u o=>(by cases o),n6 rfl⟩,⟨rfl,fun i A=>absurd A (by show¬i<0;omega)⟩⟩,
  Sl.Ok.nil,Sl.Ok.nil,Sl.Ok.nil,Sl.Ok.nil,Sl.Ok.nil,Sl.Ok.nil,ni _ _ _ _ _,ni _ _ _ _ _,ni _ _ _ _ _⟩
theorem jO.keep{κ z:hr}{s:hA}{c:hl}{w':World}(h:jO L κ s c w)(r:ht κ w z w')(D:∀k,w'.heap.size≤k→z k=0)(A:∀k,k<w.heap.size→κ k=2∨κ k=3∨κ k=4→w'.heap[k]?=w.heap[k]?):jO L z s c w':=
 ⟨fun k o=>(r.jl k (by have:=h.le;omega)).trans (h.low k o),Nat.le_trans h.le r.size,D,h.n.step r,h.jL,h.jG,h.jH,h.jv,h.jM,h.jN,h.me.keep r.jl fun k o e=>A k o (.inl e),h.en.keep r.jl fun k o e=>A k o (.inr (.inr e)),h.ex.keep r.jl fun k o e=>A k o (.inr (.inl e))⟩
theorem jO.below{κ:hr}{s:hA}{c:hl}{w':World}(h:jO L κ s c w)(o:Below w.heap.size w w'):jO L κ s c w':=
 h.keep (.of o) (fun k r=>h.fresh k (Nat.le_trans o.size r)) fun k r _=>o.block k r
theorem jO.hT{κ:hr}{s:hA}{c:hl}{w':World}(h:jO L κ s c w)(o:hn g w w')(A:κ g=8∨κ g=9):jO L κ s c w':=
 h.keep (.hT o (by omega)) (fun k r=>h.fresh k (Nat.le_trans o.size r)) fun k r z=>o.block k r fun e=>by rw[e]at z;omega
theorem jO.qm{κ:hr}{s:hA}{c:hl}{s':Sl}{xs:List Value}(h:jO L κ s c w)(o:Below w.heap.size w W)(r:W.ownsRow w.heap.size e g s'.v n xs):jO L (oW κ s' x) s c W:=
 h.keep (F2 r o) (F3 r o h.fresh) fun k z _=>o.block k z
theorem jO.qe{κ:hr}{s:hA}{c:hl}(h:jO L κ s c w)(o:Below w.heap.size w W)(r:w.heap.size≤b)(z:b<W.heap.size):jO L (iz κ b x) s c W:=
 h.keep (tc o r) (oQ h.fresh o.size z) fun k A _=>o.block k A
theorem jO.jw{κ:hr}{s:hA}{c:hl}(h:jO L κ s c w):jO L (jw κ) s c w:=
 ⟨fun k o=>by rw[tp (by rw[h.low k o];decide)];exact h.low k o,h.le,fun k o=>vj (.inl (h.fresh k o)),h.n.jw,h.jL,h.jG,h.jH,h.jv,h.jM,h.jN,h.me.jw (by decide),h.en.jw (by decide),h.ex.jw (by decide)⟩
theorem y7{κ:hr}{p:Addr}{v:Value}(o:∀k,k<L→κ k=10)(h:(hL κ w).cell? p=some v):(hL (iQ L) w).cell? p=some v:=by
 obtain⟨r,A⟩:=rQ h;have:¬p.block<L:=fun z=>by have:=o _ z;omega
 rw[p5 (if_neg this)];exact r
theorem Rd.low{κ:hr}(o:∀k,k<L→κ k=10)(h:Rd (hL κ w) B A n f):Rd (hL (iQ L) w) B A n f:=fun j r=>by
 obtain⟨z,e,D,E⟩:=h j r;exact⟨z,e,D,y7 o E⟩
theorem iY.low{κ:hr}{s:Sl}{xs:List Value}(r:∀k,k<L→κ k=10)(z:x≠10)(h:iY κ w e g x s xs):hV (hL (iQ L) w) w.heap.size s.A s.n g xs:=
 ⟨h.row.1,Rd.hid h.row.2 fun D E=>if_neg fun F=>by have o:=r _ F;rw[h.jl D E]at o;exact z o⟩
theorem kt.low{κ:hr}{s:hA}{c:hl}(o:∀k,k<L→κ k=10)(h:kt s c (hL κ w) B):kt s c (hL (iQ L) w) B:=
 ⟨⟨h.pu.1,h.pu.2.1,Rd.low o h.pu.2.2⟩,⟨h.po.1,Rd.low o h.po.2⟩,⟨h.du.1,Rd.low o h.du.2⟩,⟨h.mo.1,Rd.low o h.mo.2⟩,fun m r=>⟨⟨(h.mv m r).ys.1,(h.mv m r).ys.2.1,Rd.low o (h.mv m r).ys.2.2⟩,⟨(h.mv m r).ns.1,(h.mv m r).ns.2.1,Rd.low o (h.mv m r).ns.2.2⟩,(h.mv m r).yo,(h.mv m r).no⟩,⟨h.ma.1,h.ma.2.1,Rd.low o h.ma.2.2⟩,⟨h.ri.1,fun i A=>by
   obtain⟨D,E,F,e,G,I,z,J⟩:=h.ri.2 i A;exact⟨D,E,F,e,G,y7 o I,⟨z.1,z.2.1,Rd.low o z.2.2⟩,J⟩⟩⟩
theorem jO.lay{κ:hr}{s:hA}{c:hl}(h:jO L κ s c w):Lay s c (hL (iQ L) w) w.heap.size:=
 have k:=h.n.low h.low
 ⟨k.pu,h.me.low h.low (by decide),kD.2 (h.en.low h.low (by decide)),kD.2 (h.ex.low h.low (by decide)),k.po,k.du,k.mo,k.mv,k.ma,k.ri⟩
theorem jO.F5{κ:hr}{s:hA}{c:hl}(h:jO L κ s c w):s.Ok:=⟨h.jL,h.me.ok,h.en.ok,h.ex.ok,h.jG,h.jH,h.jv,h.jM,h.jN⟩
structure OB (w0:World) (b:Nat) (κ:hr) (B s:hA) (c:hl) (w:World):Prop where
 r:jO w0.heap.size κ s c w
 kb:κ b=8
 kr:κ (b+1)=8
 box:ha w b 46 B.cs
 res:ha w (b+1) 46 hC.h4
 hb:Below w0.heap.size w0 w
theorem OB.lt{κ:hr}{B s:hA}{c:hl}(h:OB W b κ B s c w):W.heap.size≤b:=by
 refine Classical.byContradiction fun o=>?_;have z:=h.r.low b (by omega);have A:=h.kb;omega
theorem OB.below{κ:hr}{B s:hA}{c:hl}{w':World}(h:OB W b κ B s c w)(o:Below w.heap.size w w'):OB W b κ B s c w':=
 ⟨h.r.below o,h.kb,h.kr,h.box.to o,h.res.to o,h.hb.trans (o.mono h.hb.size)⟩
theorem OB.put{κ:hr}{B B' s:hA}{c:hl}(h:OB W b κ B s c w)(j:Nat)(v:Value)(o:B'.cs=B.cs.setIfInBounds j v):OB W b κ B' s c (w.setCell ⟨b,j,none⟩ v):=
 ⟨h.r.hT ((hn.refl b w).setCell (p:=⟨b,j,none⟩) (.inl rfl) v) (.inl h.kb),h.kb,h.kr,by rw[o];exact h.box.set j v,h.res.hT ((hn.refl b w).setCell (p:=⟨b,j,none⟩) (.inl rfl) v) (by omega),h.hb.setCell (p:=⟨b,j,none⟩) h.lt v⟩
theorem OB.hT{κ:hr}{B s:hA}{c:hl}{w':World}(h:OB W b κ B s c w)(o:hn g w w')(z:κ g=9):OB W b κ B s c w':=
 ⟨h.r.hT o (.inr z),h.kb,h.kr,h.box.hT o (fun e=>by have:=h.kb;rw[e]at this;omega),h.res.hT o (fun e=>by have:=h.kr;rw[e]at this;omega),iC h.hb o (by
   refine Classical.byContradiction fun A=>?_;have D:=h.r.low g (by omega);omega) h.hb.size⟩
theorem OB.jw{κ:hr}{B s:hA}{c:hl}(h:OB W b κ B s c w):OB W b (jw κ) B s c w:=
 ⟨h.r.jw,by rw[tp (by rw[h.kb];decide)];exact h.kb,by rw[tp (by rw[h.kr];decide)];exact h.kr,h.box,h.res,h.hb⟩
theorem OB.qm{κ:hr}{B s:hA}{c:hl}{s':Sl}{xs:List Value}(h:OB W b κ B s c w)(o:Below w.heap.size w X)(z:X.ownsRow w.heap.size e g s'.v n xs):OB W b (oW κ s' x) B s c X:=
 ⟨h.r.qm o z,(vi z h.box.lt).trans h.kb,(vi z h.res.lt).trans h.kr,h.box.to o,h.res.to o,h.hb.trans (o.mono h.hb.size)⟩
theorem OB.start(s:hA)(w:World):OB w w.heap.size (iz (iz (iQ w.heap.size) w.heap.size 8) (w.heap.size+1) 8) s s.bare hl.nil ((w.alloc (.cells s.cs 46)).alloc (.cells hC.h4 46)):=by
 have o:=hC.two w s.cs;have r:Below w.heap.size w (w.alloc (.cells s.cs 46)):=hz.alloc hj _;have z:=(jO.start s w).qe (b:=w.heap.size) (x:=8) r hj (by simp);have A:=z.qe (b:=w.heap.size+1) (x:=8) (hz.alloc hj (.cells hC.h4 46)) (by simp) (by simp);exact⟨A,by rw[pz (by omega),py],py _ _ _,o.b1,o.b2,o.below⟩
theorem OB.pu{κ:hr}{B s:hA}{c:hl}{v:Value}{xs:List Nat}(h:OB W b κ B s c w)(o:Below w.heap.size w X)(z:Wd xs)(A:X.ownsRow w.heap.size 22 1 v n (xs.map wv)):
 ∃u:Sl,v=u.v∧u.n=n∧OB W b κ B {s with pu:=u} {c with us:=xs} X:=by
 obtain⟨u,rfl,D,E,F⟩:=n5 A h.r.fresh;have k:=(h.below o).r;exact⟨u,rfl,D,⟨k.low,k.le,k.fresh,⟨p2.2 ⟨F,z⟩,k.n.po,k.n.du,k.n.mo,k.n.mv,k.n.ma,k.n.ri⟩,E,k.jG,k.jH,k.jv,k.jM,k.jN,k.me,k.en,k.ex⟩,h.kb,h.kr,h.box.to o,h.res.to o,h.hb.trans (o.mono h.hb.size)⟩
theorem OB.po{κ:hr}{B s:hA}{c:hl}{v:Value}{xs:List h'}(h:OB W b κ B s c w)(o:Below w.heap.size w X)(z:X.ownsRow w.heap.size 102 4 v n (flat h'.enc xs)):
 ∃u:Sl,v=u.v∧u.n=n∧OB W b κ B {s with po:=u} {c with ds:=xs} X:=by
 obtain⟨u,rfl,A,D,E⟩:=n5 z h.r.fresh;have k:=(h.below o).r;exact⟨u,rfl,A,⟨k.low,k.le,k.fresh,⟨k.n.pu,E,k.n.du,k.n.mo,k.n.mv,k.n.ma,k.n.ri⟩,k.jL,D,k.jH,k.jv,k.jM,k.jN,k.me,k.en,k.ex⟩,h.kb,h.kr,h.box.to o,h.res.to o,h.hb.trans (o.mono h.hb.size)⟩
theorem OB.du{κ:hr}{B s:hA}{c:hl}{v:Value}{xs:List Du}(h:OB W b κ B s c w)(o:Below w.heap.size w X)(z:X.ownsRow w.heap.size 57 3 v n (flat Du.enc xs)):
 ∃u:Sl,v=u.v∧u.n=n∧OB W b κ B {s with du:=u} {c with du:=xs} X:=by
 obtain⟨u,rfl,A,D,E⟩:=n5 z h.r.fresh;have k:=(h.below o).r;exact⟨u,rfl,A,⟨k.low,k.le,k.fresh,⟨k.n.pu,k.n.po,E,k.n.mo,k.n.mv,k.n.ma,k.n.ri⟩,k.jL,k.jG,D,k.jv,k.jM,k.jN,k.me,k.en,k.ex⟩,h.kb,h.kr,h.box.to o,h.res.to o,h.hb.trans (o.mono h.hb.size)⟩
theorem OB.ma{κ:hr}{B s:hA}{c:hl}{v:Value}{xs:List Nat}(h:OB W b κ B s c w)(o:Below w.heap.size w X)(z:jQ.ko xs)(A:X.ownsRow w.heap.size 5 1 v n (xs.map hq.jq)):
 ∃u:Sl,v=u.v∧u.n=n∧OB W b κ B {s with ma:=u} {c with mm:=xs} X:=by
 obtain⟨u,rfl,D,E,F⟩:=n5 A h.r.fresh;have k:=(h.below o).r;exact⟨u,rfl,D,⟨k.low,k.le,k.fresh,⟨k.n.pu,k.n.po,k.n.du,k.n.mo,k.n.mv,lK.2 ⟨F,z⟩,k.n.ri⟩,k.jL,k.jG,k.jH,k.jv,E,k.jN,k.me,k.en,k.ex⟩,h.kb,h.kr,h.box.to o,h.res.to o,h.hb.trans (o.mono h.hb.size)⟩
theorem OB.me{κ:hr}{B s:hA}{c:hl}{v:Value}{xs:List Mem}(h:OB W b κ B s c w)(A:Below w.heap.size w X)(o:X.ownsRow w.heap.size 98 6 v n (flat Mem.enc xs)):
 ∃u:Sl,v=u.v∧u.n=n∧∃D,OB W b D B {s with me:=u} {c with ms:=xs} X:=by
 obtain⟨u,rfl,z,-⟩:=jZ o;have k:=(h.qm (x:=2) A o);rw[←z]at o;exact⟨u,rfl,z,_,⟨k.r.low,k.r.le,k.r.fresh,⟨k.r.n.pu,k.r.n.po,k.r.n.du,k.r.n.mo,k.r.n.mv,k.r.n.ma,k.r.n.ri⟩,k.r.jL,k.r.jG,k.r.jH,k.r.jv,k.r.jM,k.r.jN,r5 o,k.r.en,k.r.ex⟩,k.kb,k.kr,k.box,k.res,k.hb⟩
theorem OB.en{κ:hr}{B s:hA}{c:hl}{v:Value}{xs:List Int}(h:OB W b κ B s c w)(A:Below w.heap.size w X)(o:X.ownsRow w.heap.size 3 1 v n (xs.map iw)):
 ∃u:Sl,v=u.v∧u.n=n∧∃D,OB W b D B {s with en:=u} {c with es:=xs} X:=by
 obtain⟨u,rfl,z,-⟩:=jZ o;have k:=(h.qm (x:=4) A o);rw[←z]at o;exact⟨u,rfl,z,_,⟨k.r.low,k.r.le,k.r.fresh,⟨k.r.n.pu,k.r.n.po,k.r.n.du,k.r.n.mo,k.r.n.mv,k.r.n.ma,k.r.n.ri⟩,k.r.jL,k.r.jG,k.r.jH,k.r.jv,k.r.jM,k.r.jN,k.r.me,r5 o,k.r.ex⟩,k.kb,k.kr,k.box,k.res,k.hb⟩
theorem OB.ex{κ:hr}{B s:hA}{c:hl}{v:Value}{xs:List Int}(h:OB W b κ B s c w)(A:Below w.heap.size w X)(o:X.ownsRow w.heap.size 3 1 v n (xs.map iw)):
 ∃u:Sl,v=u.v∧u.n=n∧∃D,OB W b D B {s with ex:=u} {c with xs:=xs} X:=by
 obtain⟨u,rfl,z,-⟩:=jZ o;have k:=(h.qm (x:=3) A o);rw[←z]at o;exact⟨u,rfl,z,_,⟨k.r.low,k.r.le,k.r.fresh,⟨k.r.n.pu,k.r.n.po,k.r.n.du,k.r.n.mo,k.r.n.mv,k.r.n.ma,k.r.n.ri⟩,k.r.jL,k.r.jG,k.r.jH,k.r.jv,k.r.jM,k.r.jN,k.r.me,k.r.en,r5 o⟩,k.kb,k.kr,k.box,k.res,k.hb⟩
theorem OB.mo{κ:hr}{B s:hA}{c:hl}{u:Sl}{o:List hp}(h:OB W b κ B s c w)(z:iY κ w 59 33 9 u (flat hp.enc o))(A:∀m∈o,m.At (hL κ w) w.heap.size):OB W b (hB.jw κ) B {s with mo:=u} {c with mo:=o} w:=by
 have k:=h.jw.r;exact⟨⟨k.low,k.le,k.fresh,⟨k.n.pu,k.n.po,k.n.du,z.y6,fun m D=>y5 (A m D),k.n.ma,k.n.ri⟩,k.jL,k.jG,k.jH,z.ok,k.jM,k.jN,k.me,k.en,k.ex⟩,h.jw.kb,h.jw.kr,h.box,h.res,h.hb⟩
theorem OB.ri{κ:hr}{B s:hA}{c:hl}{u:Sl}{D:List Sl}{rs:List (List Nat)}(h:OB W b κ B s c w)(E:iY κ w 36 1 9 u (D.map Sl.v))(I:u.n=rs.length)(J:∀i,i<rs.length→∃x:Sl,D[i]?=some x∧x.n=(hq.ro rs i).length∧x.Ok∧hq.ie (hL κ w) w.heap.size x.A x.n (hq.ro rs i))(K:∀i,i<rs.length→0<(hq.ro rs i).length):
 OB W b (hB.jw κ) B {s with ri:=u} {c with rs:=rs} w:=by
 have k:=h.jw.r;refine⟨⟨k.low,k.le,k.fresh,⟨k.n.pu,k.n.po,k.n.du,k.n.mo,k.n.mv,k.n.ma,I.symm,fun i o=>?_⟩,k.jL,k.jG,k.jH,k.jv,k.jM,E.ok,k.me,k.en,k.ex⟩,h.jw.kb,h.jw.kr,h.box,h.res,h.hb⟩;have o:i<u.n:=o;obtain⟨x,O,z,Q,R⟩:=J i (by omega);have F:=E.y6.2;rw[Nat.mul_one]at F;obtain⟨S,e,T,U⟩:=F i o;refine⟨S,x.A,x.c,e,T,?_,?_,?_⟩
 ·rw[U,kN,List.getElem?_map,O,←z];rfl
 ·rw[←z];exact r6 R
 rw[←z];rcases Q with⟨_,G,_⟩|⟨_,_,G,_⟩
 ·have:=K i (by omega);omega
 exact G
structure qn (s s':hA):Prop where
 num:(s'.p,s'.hX,s'.gen,s'.hO,s'.h7,s'.hN,s'.ep,s'.calm,s'.em)=(s.p,s.hX,s.gen,s.hO,s.h7,s.hN,s.ep,s.calm,s.em)
 len:(s'.pu.n,s'.me.n,s'.en.n,s'.ex.n,s'.po.n,s'.du.n,s'.mo.n,s'.ma.n,s'.ri.n)=(s.pu.n,s.me.n,s.en.n,s.ex.n,s.po.n,s.du.n,s.mo.n,s.ma.n,s.ri.n)
structure nJ (s:hA) (c:hl):Prop where
 en:s.en.n≤100000
 ex:s.ex.n≤100000
 rn:c.rs.length≤1000
 rp:∀i,i<c.rs.length→0<(hq.ro c.rs i).length
theorem F6{rs:List (List Nat)}(h:hq.ki w B A n rs):∃z:List Sl,z.length=n∧hV w B A n 1 (z.map Sl.v)∧∀i,i<n→∃x:Sl,z[i]?=some x∧x.n=(hq.ro rs i).length∧hq.ie w B x.A x.n (hq.ro rs i):=by
 have J:∀i,∃x:Sl,i<n→∃o,A=some o∧o.block<B∧w.cell? (o.add i)=some x.v∧x.n=(hq.ro rs i).length∧hq.ie w B x.A x.n (hq.ro rs i):=fun i=>by
  by_cases r:i<n
  ·obtain⟨o,K,O,e,D,E,Q,_⟩:=h.2 i r
   exact⟨⟨K,(hq.ro rs i).length,O⟩,fun _=>⟨o,e,D,E,rfl,Q⟩⟩
  exact⟨Sl.nil,fun R=>absurd R r⟩
 obtain⟨f,G⟩:=Classical.axiomOfChoice J;have I:∀i,i<n→((List.range n).map f)[i]?=some (f i):=fun i r=>by rw[List.getElem?_map,List.getElem?_range r];rfl
 refine⟨(List.range n).map f,by simp,⟨by simp,fun j F=>?_⟩,fun i r=>⟨f i,I i r,?_⟩⟩
 ·rw[Nat.mul_one]at F
  obtain⟨o,e,D,E,_⟩:=G j F;exact⟨o,e,D,by rw[kN,List.getElem?_map,I j F];exact E⟩
 obtain⟨o,_,_,_,S,T⟩:=G i r;exact⟨S,T⟩
def F7(s:hA)(c:hl)(w:World)(e:Ending)(w':World):Prop:=∃κ s' mo,e= .returned (.agg s'.cs)∧jO w.heap.size κ s' {c with mo:=mo} w'∧Below w.heap.size w w'∧qn s s'∧k0 c.mo mo
end hB
end Go.Proofs.YtffbipddbnkdjaaGreat
