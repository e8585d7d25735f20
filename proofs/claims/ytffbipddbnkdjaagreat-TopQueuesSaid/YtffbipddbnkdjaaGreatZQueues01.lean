/- What functions compute at any arguments, and plain facts: an act is done; an engine is made; who is among some; What waits and is done, plainly: who waits comes in its order; The law TopQueues, walked: who waits comes in its order. Conditions: those that each theorem names. -/
import Derived.Test.YtffbipddbnkdjaaGreatZ35
set_option maxRecDepth 100000
set_option maxHeartbeats 40000000
set_option linter.all false
open Go Go.Proofs.Tryz
open Go.Value(int)
open Go.IntKind(i64 u64)
variable{A T:Option Addr}{n g b L k B i x a m j q c p s r d h u N y:Nat}{E z:Int}{P:Program}{w W X Z:World}{e t:TypeId}{f:Nat→Value}{l:List Bool}{V U:Value}{Y:List Nat}{S:List Value}{R:List Int}{Q:Array Value}{O:List (List Nat)}{M:Bool}{K:Ending}{J:Addr}{I:Nat→Nat}{H:Option Nat}
namespace Go.Proofs.YtffbipddbnkdjaaGreat
namespace hB
open RowKit
open hG hf hC h0 hU
theorem HG(A:Option Addr)(n c:Nat)(o:List Int)(x:Int)(w:World)(h:jr w w.heap.size A n o)(ab:n≤9223372036854775807)(b:Bool)(S:b=decide (x∈o)):Calls prog 12 #[.slice A n c,.int .i64 x] w fun e w'=>e= .returned (.bool b)∧w=w':=by
 obtain⟨F,K⟩:=hg h S;go_enter func12,ntmps12;go_wp2;go_loopw [9] (fun G wr=>∃k:Nat,G= .int .i64 k∧k≤n∧w=wr∧∀j,j<k→o[j]?≠some x) (fun G _=>n-(intOf G).toNat)
 case atStart=>exact⟨0,rfl,h6,rfl,fun j r=>absurd r (by omega)⟩
 case round=>
  obtain⟨k,rfl,ac,rfl,T⟩:=hrel;have O:=g' T;by_cases E:k<n
  ·have U:=hZ E
   obtain⟨V,rfl,_,I⟩:=F.2 k E;have Q:o[k]?=some (o.getD k 0):=by rw[iJ,iB (show k<o.length by rw[F.1];exact E)];rfl
   obtain⟨z,W⟩:=ho (o.getD k 0);replace I:w.cell? (V.add k)=some (.int .i64 (o.getD k 0)):=I;rw[W]at I Q;have R:=g' Q;by_cases D:z=x
   ·have J:=g' (show b=true by rw[K.out];exact decide_eq_true (HH (D▸R.out)))
    have q:=jU D;have X:=hZ D;go_wp2;go_ret;exact⟨by rw[J.out];first|done|rfl,rfl⟩
   have q:=iM D;have X:=h1 D;have Y:=g' D;have Z:=g' (show∀j,j<k+1→o[j]?≠some x from fun j r=>by
    rcases Nat.lt_succ_iff_lt_or_eq.1 r with r|rfl
    ·exact O j r
    intro e;have:=R.out;rw[e]at this;cases this;exact Y rfl)
   go_wp2;exact⟨⟨k+1,by go_num,by omega,trivial,Z⟩,by simp[intOf];omega⟩
  have U:=h1 E;have J:=g' (show b=false by
   rw[K.out];refine decide_eq_false fun aa=>?_;obtain⟨j,r,e⟩:=List.getElem_of_mem aa;exact O j (by have:=F.1;omega) (by rw[List.getElem?_eq_getElem r,e]))
  go_wp2;go_ret;exact⟨by rw[J.out];first|done|rfl,rfl⟩
def QI(xs o:List Int)(j k:Nat):Prop:=k≤xs.length∧jV (xs.drop k) o=(jV xs o).drop j
theorem QI.zero(xs o:List Int):QI xs o 0 0:=⟨h6,rfl⟩
theorem QI.step{xs:List Int}{i:Int}(h:QI xs R j k)(r:(jV xs R)[j]?=some i):
 ∃x,xs[k]?=some x∧k<xs.length∧((x=i∧QI xs R (j+1) (k+1))∨(x≠i∧x∈R∧QI xs R j (k+1))):=by
 obtain⟨K,o⟩:=h;have E:j<(jV xs R).length:=(jh.1 r).1;have D:(jV xs R).drop j=i::(jV xs R).drop (j+1):=by
  rw[List.drop_eq_getElem_cons E];rw[List.getElem?_eq_getElem E]at r;injection r with r;rw[r]
 have F:i∉R:=by
  have:=List.mem_of_getElem? r;have:=(List.mem_filter.1 this).2;simpa using this
 have z:k<xs.length:=by
  rcases Nat.lt_or_ge k xs.length with h|h
  ·exact h
  rw[List.drop_eq_nil_of_le h,D]at o;simp[jV]at o
 have G:xs.drop k=xs[k]::xs.drop (k+1):=List.drop_eq_getElem_cons z;refine⟨xs[k],List.getElem?_eq_getElem z,z,?_⟩;rw[G,D]at o;by_cases A:xs[k]∈R
 ·refine .inr ⟨fun e=>F (e▸A),A,z,?_⟩
  rw[D,←o];unfold jV;rw[List.filter_cons_of_neg (by simpa using A)]
 unfold jV at o;rw[List.filter_cons_of_pos (by simpa using A)]at o;injection o with I J;exact .inl ⟨I,z,J⟩
theorem HJ{l:List Int}(h:j<(l.take n).length):l[j]?=(l.take n)[j]? :=by
 rw[List.getElem?_take_of_lt (by simp at h;omega)]
theorem HK(G:hx)(D:Nat)(pu:Sl)(R:Option Addr)(S V:Nat)(us:List Nat)(X:List Fo)(A:Option Addr)(n bG:Nat)(xs:List jC)(w:World)(h:vu w pu R S us X D A n xs):Calls prog 4 #[.agg (je G D pu ⟨R,S,V⟩),.slice A n bG] w fun e w'=>e= .returned (.bool true)∧Below w.heap.size w w':=by
 have ap:Below w.heap.size w (w.alloc (.cells (je G D pu ⟨R,S,V⟩) 28)):=hz.alloc hj _;have a8:ha (w.alloc (.cells (je G D pu ⟨R,S,V⟩) 28)) w.heap.size 28 (je G D pu ⟨R,S,V⟩):=ha.new w _ _ _ rfl;obtain⟨a9,aF⟩:=ho (w.alloc (.cells (je G D pu ⟨R,S,V⟩) 28));rw[aF]at ap a8;obtain⟨aG,a',aH,ba,bb,c7,bH⟩:=k2 h aF ap a8 (fun(W:World) (aq:Below a9.heap.size a9 W)=>lE G D pu R S V us X W ⟨h.u.1,h.u.2.1,(h.u.2.2.to ap).to aq⟩ h.un ((h.f.to ap).to aq) h.m h.fb) (show(je G D pu ⟨R,S,V⟩)[24]?=some (.int .u64 D)from rfl) (show w.heap.size<a9.heap.size by rw[←aF];simp);obtain⟨bc,bd⟩:=ho (je G D pu ⟨R,S,V⟩);have bI:(prog.info? 28).map (·.size)=some bc.size:=by rw[←bd];exact qp _ _ _ _
 rw[bd]at ba a' bb c7⊢;have c8:=g' bI;clear aF ap a8 h bd bI;go_enter func4,ntmps4;go_upto_region 1 with(fail)
 rw[a'.out];clear a';go_wp2_with fail;refine(vt _).mono ?_;rintro e bJ ⟨rfl,be⟩;have bf:=ba.out.to be;have ar:=g' be;clear be;go_wp2_with (first|(refine hR bf np c8.out rfl rfl rfl rfl ?_));refine(bb.out bJ ar.out).mono ?_;rintro e c9 ⟨v,b,rfl,bg,bK⟩;obtain⟨bL,bM,au,bN⟩:=h5 bK ar.out.size (ar.out.trans (bg.mono ar.out.size)) (bf.to bg);clear bg bf ba ar bb bK;cases b
 ·go_wp2
  go_ret;exact⟨rfl,hJ aH.out au.out⟩
 obtain⟨_,_,g,aI,me,ma,rfl,da,Y⟩:=bL.out rfl;obtain⟨bO,aJ,bP,ag⟩:=h5 (tw A n bG 60 xs c9 ((aG.out.a.to aH.out).to au.out) aG.out.an) Y (show w.heap.size<g from by have Z:=bH.out;have bh:=bM.out;omega) (show DI 0 (jf G D (iH (us++X.map Fo.hD)) aI me ma) (jS G us X)∧(jf G D (iH (us++X.map Fo.hD)) aI me ma).hX=D∧(jf G D (iH (us++X.map Fo.hD)) aI me ma).ep=0 from⟨⟨hj,fun x aa=>by cases aa⟩,rfl,rfl⟩);obtain⟨bQ,bR⟩:=ho (jf G D (iH (us++X.map Fo.hD)) aI me ma);obtain⟨bS,bT⟩:=ho (jS G us X);rw[bR]at aJ ag;rw[bT]at aJ ag;clear bR bT Y da bL bM;go_wp2_with fail;refine bO.out.mono ?_;rintro e db ⟨b,rfl,aK,bU⟩;obtain⟨bV,bi⟩:=hg bU (hJ aH.out (au.out.trans (aK.mono au.out.size)));have bW:=g' (show LI w bc D g 0 bQ bS db from⟨bi.out,bN.out.to aK,aJ.out.below aK,bP.out,ag.out.1,ag.out.2.1,by rw[ag.out.2.2];exact⟨Int.le_refl 0,Int.le_refl 0⟩⟩);clear aK bU bO aJ ag bP bN au;cases b
 ·go_wp2
  go_ret;exact⟨rfl,bi.out⟩
 have bX:=g' (bV.out rfl);have dc:=g' (aG.out.a.row.len jC.len (by omega));clear bV bi aH bH;go_wp2;go_loopw [35] (fun I wr=>∃(k:Nat) (s:hA) (c:hl),I= .int .i64 k∧k≤n∧LI w bc D g k s c wr) (fun I _=>n-(intOf I).toNat)
 case atStart=>exact⟨0,bQ,bS,rfl,h6,bW.out⟩
 case round=>
  clear bW;obtain⟨k,s,c,rfl,d9,bY⟩:=hrel;have O:=g' bY;clear bY;have ea:n≤60:=bX.out.1;by_cases aL:k<n
  ·have dd:=hZ aL
   obtain⟨a,bj⟩:∃a,xs[k]?=some a:=⟨_,iB (by rw[dc.out];exact aL)⟩;have bk:=g' (aG.out.a.to O.out.below);have bl:=List.mem_of_getElem? bj;obtain⟨de,rfl,_,av⟩:=bk.out.row.cell jC.len aL bj (by omega);obtain⟨aw,bZ,df⟩:=hs av (bk.out.qk a bl) (bX.out.2 a bl);clear av bj bl bk;go_upto_region 9 with(first|(refine oL rfl 38 (.tmp 37) rfl (de.add (k*3)) rfl a.enc _ aw.out nL rfl (by kernel_rfl) ?_)|(refine jD rfl 38 (.tmp 8) (.tmp 38) rfl a.cs rfl rfl (qs _) rfl (tv _) ?_;intro ax b0 aM b1))
   obtain⟨aN,b2⟩:=hg (O.out.to aM) (bZ.out.to aM);obtain⟨b3,b4,eb,bm⟩:=h5 (show g<ax.heap.size from aN.out.nr.box.lt) b0 (show wr.heap.size<ax.heap.size from b1) aM;clear b0 aM b1 aw bZ;go_wp2_with fail;refine(q5 g s c ax aN.out.nr).mono ?_;rintro e aO ⟨o,bn,rfl,ah,aP,b5,b6⟩;obtain⟨b7,b8,b9,dh,dj,dk,bo⟩:=k2 (aN.out.to ah) (b2.out.to ah) (b4.out.to ah) (And.intro aP b5) b6 ah.size (bm.out.trans (ah.mono bm.out.size));clear ah aP b5 b6 aN b2 b4 bm;go_upto_region 10 with(first|(refine jD rfl 46 (.tmp 9) (.tmp 40) rfl o.cs rfl rfl (j4 o) rfl (ln o) ?_;intro wc b' ad dl))
   obtain⟨ca,cb⟩:=hg (b7.out.to ad) (b8.out.to ad);have cc:=b9.out.to ad;obtain⟨cd,ce,cf⟩:=hs b' (show Lay o {c with mo:=bn} (hL (iQ ax.heap.size) wc) wc.heap.size from(dj.out.lay.below (oY ad)).more ad.size) (bo.out.trans (ad.mono bo.out.size));clear b' ad dl b7 b8 b9 bo;have cg:=g' (vr g s c a wc ca.out.nr (ca.out.di.more (by omega)) cb.out df.out);go_wp2_with (first|(refine hR cc nL (qs _) rfl rfl rfl rfl ?_));refine cg.out.mono ?_;rintro e aQ ⟨dm,t,E,rfl,ai,ch,ci,cj,ck⟩;obtain⟨dn,dp,cl,cm,dq,cn,co,ec⟩:=mI cj ck ai ch ci (cd.out.hT ai (show aO.heap.size≠g from by have Z:=b3.out;have bh:=dk.out;omega)) (show Lay o {c with mo:=bn} (hL (iQ ax.heap.size) aQ) aQ.heap.size from(ce.out.below (mF ai (nn b3.out))).more ai.size) ai.size;clear cj ck ai ch ci cc cd ce cg cb;go_upto_region 11 with(first|(refine jD rfl 49 (.tmp 10) (.tmp 45) rfl dm rfl rfl (vv cm.out) (by rw[cm.out];rfl) dq.out ?_;intro aR cp aj dr))
   obtain⟨dt,aS,dv,dw,cq⟩:=jg cp aj (cn.out.to aj) (show Lay o {c with mo:=bn} aR aR.heap.size from((co.out.below (oY aj)).more aj.size).seen) (show hn g wr aR from hn.trans' (hn.trans' (hn.jJ cf.out) cl.out) (hn.jJ aj));clear cp aj dr cn co cf cl;cases t;focus
    obtain⟨s',c',Y,aT⟩:=dn.out rfl;have aU:=g' (Y.below aS.out);have aV:=g' (O.out.next cq.out aU.out ((aT.di O.out.di).more (by omega)) aT.hX (.inl aT.ep));clear Y aT
   rotate_left;focus
    obtain⟨s',c',p,r,rfl,Y,cr,T⟩:=dp.out rfl;have aU:=g' (Y.below aS.out);obtain⟨aV,bp,dx,cs⟩:=h5 (O.out.next cq.out aU.out ((T.di O.out.di (by have:=O.out.ep;omega)).more (by omega)) T.hX (.inr T.ep)) T ((cr.below aS.out).more aS.out.size) (n7 dh.out.1);clear Y cr T
   rotate_left;all_goals
    have ct:=g' (q5 g s' c' aR aU.out);go_wp2_with fail;refine ct.out.mono ?_;rintro e ed ⟨J,cu,rfl,cv,cw,cx,cy⟩;obtain⟨ee,cz,cA⟩:=hs (And.intro cw cx) cy.lay.seen cv;clear cv cw cx cy ct;go_upto_region 12 with(first|(refine jD rfl 46 (.tmp 13) (.tmp 49) rfl J.cs rfl rfl (j4 J) rfl (ln J) ?_;intro aW cB aX dy))
    obtain⟨cC,cD,ab⟩:=hs cB ((cz.out.below aX).more aX.size) (cA.out.trans (aX.mono cA.out.size));clear cB aX dy cz
   ·have bq:=g' (aV.out.to ab.out)
    go_wp2;exact⟨⟨k+1,s',c',by go_num,by omega,bq.out⟩,by simp[intOf];omega⟩
   obtain⟨bq,ay,cE⟩:=hs (aV.out.to ab.out) ((dx.out.below ab.out).more ab.out.size) ((dw.out.below ab.out).more ab.out.size);have az:=dt.out.to ab.out;have aA:=dv.out.to ab.out;have cF:=cC.out;have dz:=az.cell (j:=10) (v:= .slice p.ou.A p.ou.n p.ou.c) rfl;have dA:=az.cell (j:=11) (v:= .slice p.le.A p.le.n p.le.c) rfl;have dB:=az.cell (j:=12) (v:= .slice p.st.A p.st.n p.st.c) rfl;have dC:=aA.cell (j:=19) (v:= .int .i64 o.p.iy) rfl;have dD:=aA.cell (j:=29) (v:= .int .i64 o.ep) rfl;have br:=aA.cell (j:=35) (v:= .slice o.ex.A o.ex.n o.ex.c) rfl;have bt:=cF.cell (j:=37) (v:= .slice J.du.A J.du.n J.du.c) rfl;obtain⟨K,ae,aY,aZ,cG⟩:=bp.out.ls;have dE:r.ls.length≤K:=by rw[aY];simp;omega
   have dF:r.ls.length≤c.xs.length:=by rw[aY];have:=qS c.xs ae;simp;omega
   have cH:=ay.out.le.1;have dG:=ay.out.st.1;have ak:=cE.out.ex.1;have dH:o.p.iy=s.p.iy:=by rw[cs.out.1]
   have aP:=bp.out.ss;have dI:decide (o.p.iy<(p.st.n:Int))=false:=by simp;omega
   have dJ:decide (o.p.iy<(p.le.n:Int))=false:=by simp;omega
   have dK:decide (o.ex.n<p.le.n)=false:=by have dL:c.xs.length=o.ex.n:=ak;simp;omega
   have dM:decide ((o.ex.n:Int)<(p.le.n:Int))=false:=by have dL:c.xs.length=o.ex.n:=ak;simp;omega
   obtain⟨cI,cJ,cK⟩:=hs (And.intro aY cG) (And.intro cH (show c.xs.length=o.ex.n from ak)) (show o.ex.n≤1000000 from by have Z:=O.out.nr.nj.ex;have bh:c.xs.length=s.ex.n:=O.out.nr.seen.ex.1;have a0:c.xs.length=o.ex.n:=ak;omega);obtain⟨dN,a1,bu⟩:=hs (show p.le.n≤1000000 from by have Z:=cK.out;have a0:c.xs.length=o.ex.n:=ak;omega) aA az;clear cF az aA aY aZ cG dE dF cH dG ak dH aP;go_wp2;go_loopw [14,80] (fun I bv dO=>∃(q j:Nat),I= .int .i64 q∧bv= .int .i64 j∧j≤p.le.n∧QI c.xs ae j q∧Below aW.heap.size aW dO) (fun _ bv _=>p.le.n-(intOf bv).toNat)
   case atStart=>exact⟨0,0,rfl,rfl,h6,QI.zero _ _,hz⟩
   case round=>
    as_aux_lemma=>
     obtain⟨q,j,rfl,rfl,ef,cL,aq⟩:=hrel;obtain⟨dP,aB⟩:=hg cL aq;clear cL aq dz dA dB dC dD br bt dI dJ dK dM;have eg:=cK.out;have eh:=dN.out;by_cases bw:j<p.le.n
     ·have dQ:=hZ bw
      obtain⟨dR,cM,_,a2⟩:=(ay.out.le.below aB.out).2 j bw;replace a2:wr.cell? (dR.add j)=some (.int .i64 (r.ls.getD j 0)):=a2;obtain⟨i,bx⟩:=ho (r.ls.getD j 0);have cN:(jV c.xs ae)[j]?=some i:=by
       have bz:j<r.ls.length:=by have:=cJ.out.1;omega
       have Z:r.ls[j]?=some i:=by rw[←bx,iJ,List.getElem?_eq_getElem bz];rfl
       rw[cI.out.1]at Z bz;exact(HJ bz).trans Z
      have dS:=g' cN;rw[bx]at a2;rw[cM];clear bx cN;go_wp2;go_loopw [14] (fun I bA=>∃z:Nat,I= .int .i64 z∧QI c.xs ae j z∧Below wr.heap.size wr bA) (fun I _=>o.ex.n-(intOf I).toNat)
      case atStart=>exact⟨q,rfl,dP.out,hz⟩
      case round=>
       as_aux_lemma=>
        clear a2 cM;obtain⟨z,rfl,bB,al⟩:=hrel;obtain⟨F,dT⟩:=hg (aB.out.trans (al.mono aB.out.size)) al;obtain⟨x,aa,dU,cO⟩:=bB.step dS.out;obtain⟨ei,cP⟩:=hg bB cO;have cQ:z<o.ex.n:=by have a0:=cJ.out.2;omega
        have cR:decide (z<o.ex.n)=true:=by simpa using cQ
        have ej:((z:Int)==(o.ex.n:Int))=false:=by simp;omega
        have ek:(z==o.ex.n)=false:=by simp;omega
        have el:decide (z=o.ex.n)=false:=by simp;omega
        obtain⟨ao,aC,aD,a3⟩:=(cE.out.ex.below F.out).2 z cQ;replace a3:wr.cell? (ao.add z)=some (.int .i64 (c.xs.getD z 0)):=a3;have cS:c.xs.getD z 0=x:=by rw[iJ,aa];rfl
        rw[cS]at a3;have br:wr.cell? ⟨aO.heap.size,35,none⟩=some (.slice (some ao) o.ex.n o.ex.c):=by rw[←aC];exact(a1.out.to F.out).cell (j:=35) (v:= .slice o.ex.A o.ex.n o.ex.c) rfl
        obtain⟨cT,cU,cV⟩:=hs a3 (Nat.lt_of_lt_of_le aD F.out.size) br;clear aa dU cO bB al cS aC;by_cases Q:x=i
        ·as_aux_lemma=>
          have dV:=tB Q;have dW:=jU Q;have dX:=hZ Q;have a4:=g' (show QI c.xs ae (j+1) (z+1)from cP.out.elim (fun h=>h.2) (fun h=>absurd Q h.1));clear Q;go_wp2;exact⟨⟨z+1,j+1,by go_num,by go_num,by omega,a4.out,F.out⟩,by simp[intOf];omega⟩
        as_aux_lemma=>
         have dV:=pM Q;have dW:=iM Q;have dX:=h1 Q;have a4:=g' (show x∈ae∧QI c.xs ae j (z+1)from cP.out.elim (fun h=>absurd h.1 Q) (fun h=>h.2));obtain⟨dY,dZ,cW,d0⟩:=h5 (show true=decide (x∈r.os)from(decide_eq_true (cI.out.2 x a4.out.1)).symm) ((ay.out.ou.below F.out).more F.out.size) ((bu.out.to F.out).cell (j:=10) (v:= .slice p.ou.A p.ou.n p.ou.c) rfl) (vB ay.out.oo);clear Q;go_upto_region 20 with(fail)
         refine gZ.iP (fun w'=>Below wr.heap.size wr w') 9 (by kernel_rfl) (by rintro _ _ (_|_) _ _ h<;>exact h) hM fun cX U=>?_;refine gZ.tq cX 2 (gZ.sq 0 7 false []) (by kernel_rfl) U ?_;iterate 7(refine gZ.t1 rfl rfl (fun w' af=>by try simp only[S3];have d1:=jt (p:=⟨aQ.heap.size,10,none⟩) af (Nat.lt_of_lt_of_le bu.out.lt F.out.size) cW.out;have bC:=jt (p:=⟨aO.heap.size,35,none⟩) af (Nat.lt_of_lt_of_le a1.out.lt F.out.size) cV.out;have d2:=(Below.cell (p:=ao.add z) af (by rw[block_add];exact cU.out)).trans cT.out;go_simp;try rfl) ?_;try simp only[S4,S3])
         refine gZ.hH (fun U=>?_);refine gZ.hY 7 (n:=1) rfl rfl (by kernel_rfl) (fun K aZ=>?_);(try simp only[S3])
         go_simp;refine(HG _ _ _ r.os x _ ((dZ.out.below U.1).more U.1.size) d0.out true dY.out).mono ?_;rintro e w' ⟨rfl,rfl⟩;refine aZ.out _ _ (U.1) trivial (fun U=>?_);clear aZ K;(try simp only[S4,S3])
         refine gZ.tq cX 0 [(8,false)] (by kernel_rfl) U ?_;iterate 1(refine gZ.t1 rfl rfl (fun w' af=>by try simp only[S3];have d1:=jt (p:=⟨aQ.heap.size,10,none⟩) af (Nat.lt_of_lt_of_le bu.out.lt F.out.size) cW.out;have bC:=jt (p:=⟨aO.heap.size,35,none⟩) af (Nat.lt_of_lt_of_le a1.out.lt F.out.size) cV.out;have d2:=(Below.cell (p:=ao.add z) af (by rw[block_add];exact cU.out)).trans cT.out;go_simp;try rfl) ?_;try simp only[S4,S3])
         refine gZ.hH (fun U=>?_);clear U;refine gZ.ia (by kernel_rfl) ?_;have d3:=g' (Below.drew dT.out);go_wp2;exact⟨⟨z+1,by go_num,a4.out.2,d3.out⟩,by simp[intOf];omega⟩
     have dQ:=h1 bw;have bt:=(cC.out.to aB.out).cell (j:=37) (v:= .slice J.du.A J.du.n J.du.c) rfl;have cY:=g' (cD.out.du.len Du.len (by omega));have em:J.du.n≤1000000:=by have Z:=cY.out;have bh:=aV.out.di.len;have a0:(({c' with mo:=cu}:hl).du)=c'.du:=rfl;rw[a0]at Z;omega
     go_wp2;go_loopw [120] (fun I bA=>∃m:Nat,I= .int .i64 m∧m≤J.du.n∧Below aW.heap.size aW bA) (fun I _=>J.du.n-(intOf I).toNat)
     case atStart=>exact⟨0,rfl,h6,aB.out⟩
     case round=>
      as_aux_lemma=>
       obtain⟨m,rfl,en,al⟩:=hrel;have F:=g' al;clear al bt;by_cases aD:m<J.du.n
       ·have cR:=hZ aD
        obtain⟨x,aa⟩:∃x,c'.du[m]?=some x:=⟨_,iB (by have:=cY.out;have h:(({c' with mo:=cu}:hl).du)=c'.du:=rfl;rw[h]at this;omega)⟩;obtain⟨ao,aC,_,av⟩:=(cD.out.du.below F.out).cell Du.len aD aa (by omega);obtain⟨cZ,aw⟩:=hg (bp.out.dg x (List.mem_of_getElem? aa)) av;rw[aC];clear av aa aC;go_upto_region 30 with(first|(refine oL rfl 57 (.tmp 122) rfl (ao.add (m*3)) rfl x.enc _ aw.out nF rfl (by kernel_rfl) ?_)|(refine jD rfl 57 (.tmp 18) (.tmp 123) rfl #[.int .i64 x.ac,.int .i64 x.ti,.int .u64 x.am] rfl rfl (by kernel_rfl) rfl (by kernel_rfl) ?_;intro eo c0 bD d4))
        have bC:=c0.cell (j:=1) (v:= .int .i64 x.ti) rfl;have d5:=((a1.out.to F.out).to bD).cell (j:=29) (v:= .int .i64 o.ep) rfl;have d6:=g' (F.out.trans (bD.mono F.out.size));have c1:o.ep=s.ep:=cs.out.2.2.2.2.2.2.1;have bE:=O.out.ep;have a5:=cZ.out.lo;have a6:=cZ.out.hi;rw[←c1]at bE a5 a6;obtain⟨aE,c2⟩:=ho o.ep;rw[c2]at d5 bE a5 a6;clear c1 c2 c0 bD d4 aw;obtain⟨a7,c3⟩:=ho x.ti;rw[c3]at bC a5 a6;clear c3;obtain⟨bF,c4⟩:=hk (aE+1);have bJ:IntKind.i64.wrap (aE+1)=bF:=by rw[c4];exact IntWalk.i64_in _ (by omega)
        obtain⟨c5,c6⟩:=hk (aE+50);have ep:IntKind.i64.wrap (aE+50)=c5:=by rw[c6];exact IntWalk.i64_in _ (by omega)
        have eq:decide (c5<a7)=false:=by simp;omega
        by_cases T:a7=aE;focus
         have d7:decide (a7<bF)=true:=by simp;omega
         have er:=tB T;have et:=hZ T
        rotate_left;focus
         have d7:decide (a7<bF)=false:=by simp;omega
        all_goals
         clear c4 c6 a5 a6 bE T;go_wp2;exact⟨⟨m+1,by go_num,by omega,d6.out⟩,by simp[intOf];omega⟩
       have cR:=h1 aD;have d8:=g' (bq.out.to F.out);go_wp2;exact⟨⟨k+1,s',c',by go_num,by omega,d8.out⟩,by simp[intOf];omega⟩
  have dd:=h1 aL;go_wp2;go_ret;exact⟨rfl,O.out.below⟩
end hB
end Go.Proofs.YtffbipddbnkdjaaGreat
