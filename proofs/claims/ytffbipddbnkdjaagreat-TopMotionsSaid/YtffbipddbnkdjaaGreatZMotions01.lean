/- What functions compute at any arguments, and plain facts: what changes parameters or the emergency is a motion that was done. Conditions: those that each theorem names. -/
import Derived.Test.YtffbipddbnkdjaaGreatZ35
set_option maxRecDepth 100000
set_option maxHeartbeats 40000000
set_option linter.all false
open Go Go.Proofs.Tryz
open Go.Value(int)
open Go.IntKind(i64 u64)
variable{A T:Option Addr}{n g b L k B i x a m j q c p s r d h u N y:Nat}{E z:Int}{P:Program}{w W X Z:World}{e t:TypeId}{f:Nat→Value}{l:List Bool}{V U:Value}{Y:List Nat}{S:List Value}{R:List Int}{Q:Array Value}{O:List (List Nat)}{M:Bool}{K:Ending}{J:Addr}{I:Nat→Nat}{H:Option Nat}
namespace Go.Proofs.YtffbipddbnkdjaaGreat
namespace hB
open RowKit
open hG hf hC h0 hU
theorem k0.len{a b:List hp}(h:k0 a b):b.length=a.length:=h.1
theorem k0.st{a b:List hp}(h:k0 a b){m:hp}(o:a[j]?=some m):∃x,b[j]?=some x∧x.st=m.st∧x.en=m.en:=by
 obtain⟨y,z,r,_,_⟩:=h.2 j m o;exact⟨_,r,rfl,rfl⟩
theorem HL(I:hx)(G:Nat)(pu:Sl)(O:Option Addr)(Q S:Nat)(us:List Nat)(T:List Fo)(A:Option Addr)(n bR:Nat)(xs:List jC)(w:World)(h:vu w pu O Q us T G A n xs):Calls prog 5 #[.agg (je I G pu ⟨O,Q,S⟩),.slice A n bR] w fun e w'=>e= .returned (.bool true)∧Below w.heap.size w w':=by
 have au:Below w.heap.size w (w.alloc (.cells (je I G pu ⟨O,Q,S⟩) 28)):=hz.alloc hj _;have be:ha (w.alloc (.cells (je I G pu ⟨O,Q,S⟩) 28)) w.heap.size 28 (je I G pu ⟨O,Q,S⟩):=ha.new w _ _ _ rfl;obtain⟨bf,aR⟩:=ho (w.alloc (.cells (je I G pu ⟨O,Q,S⟩) 28));rw[aR]at au be;obtain⟨aS,bg,aT,bh,bi,de,bS⟩:=k2 h aR au be (fun(W:World) (av:Below bf.heap.size bf W)=>lE I G pu O Q S us T W ⟨h.u.1,h.u.2.1,(h.u.2.2.to au).to av⟩ h.un ((h.f.to au).to av) h.m h.fb) (show(je I G pu ⟨O,Q,S⟩)[24]?=some (.int .u64 G)from rfl) (show w.heap.size<bf.heap.size by rw[←aR];simp);obtain⟨bj,bk⟩:=ho (je I G pu ⟨O,Q,S⟩);have bT:(prog.info? 28).map (·.size)=some bj.size:=by rw[←bk];exact qp _ _ _ _
 rw[bk]at bh bg bi de⊢;have df:=g' bT;clear aR au be h bk bT;go_enter func5,ntmps5;go_upto_region 1 with(fail)
 rw[bg.out];clear bg;go_wp2_with fail;refine(vt _).mono ?_;rintro e dg ⟨rfl,U⟩;have bl:=bh.out.to U;have aw:=g' U;clear U;go_wp2_with (first|(refine hR bl np df.out rfl rfl rfl rfl ?_));refine(bi.out dg aw.out).mono ?_;rintro e dh ⟨v,b,rfl,bm,bU⟩;obtain⟨bV,bW,ax,bX⟩:=h5 bU aw.out.size (aw.out.trans (bm.mono aw.out.size)) (bl.to bm);clear bm bl bh aw bi bU;cases b
 ·go_wp2
  go_ret;exact⟨rfl,hJ aT.out ax.out⟩
 obtain⟨_,_,g,aU,me,ma,rfl,dj,V⟩:=bV.out rfl;obtain⟨bY,aV,R,ah⟩:=h5 (tw A n bR 60 xs dh ((aS.out.a.to aT.out).to ax.out) aS.out.an) V (show w.heap.size<g from by have D:=bS.out;have F:=bW.out;omega) (show DI 0 (jf I G (iH (us++T.map Fo.hD)) aU me ma) (jS I us T)∧(jf I G (iH (us++T.map Fo.hD)) aU me ma).hX=G∧(jf I G (iH (us++T.map Fo.hD)) aU me ma).ep=0 from⟨⟨hj,fun x aW=>by cases aW⟩,rfl,rfl⟩);obtain⟨bZ,b0⟩:=ho (jf I G (iH (us++T.map Fo.hD)) aU me ma);obtain⟨b1,b2⟩:=ho (jS I us T);rw[b0]at aV ah;rw[b2]at aV ah;clear b0 b2 V dj bV bW;go_wp2_with fail;refine bY.out.mono ?_;rintro e dk ⟨b,rfl,aX,b3⟩;obtain⟨b4,bn⟩:=hg b3 (hJ aT.out (ax.out.trans (aX.mono ax.out.size)));have b5:=g' (show LI w bj G g 0 bZ b1 dk from⟨bn.out,bX.out.to aX,aV.out.below aX,R.out,ah.out.1,ah.out.2.1,by rw[ah.out.2.2];exact⟨Int.le_refl 0,Int.le_refl 0⟩⟩);clear aX b3 bY aV ah R bX ax;cases b
 ·go_wp2
  go_ret;exact⟨rfl,bn.out⟩
 have b6:=g' (b4.out rfl);have dl:=g' (aS.out.a.row.len jC.len (by omega));clear b4 bn aT bS;go_wp2;go_loopw [35] (fun Z wr=>∃(k:Nat) (s:hA) (c:hl),Z= .int .i64 k∧k≤n∧LI w bj G g k s c wr) (fun Z _=>n-(intOf Z).toNat)
 case atStart=>exact⟨0,bZ,b1,rfl,h6,b5.out⟩
 case round=>
  clear b5;obtain⟨k,s,c,rfl,d9,b7⟩:=hrel;have X:=g' b7;clear b7;have ea:n≤60:=b6.out.1;by_cases aY:k<n
  ·have ay:=hZ aY
   obtain⟨a,bo⟩:∃a,xs[k]?=some a:=⟨_,iB (by rw[dl.out];exact aY)⟩;have bp:=g' (aS.out.a.to X.out.below);have bq:=List.mem_of_getElem? bo;obtain⟨dm,rfl,_,az⟩:=bp.out.row.cell jC.len aY bo (by omega);obtain⟨aA,b8,dp⟩:=hs az (bp.out.qk a bq) (b6.out.2 a bq);clear az bo bq bp;go_upto_region 9 with(first|(refine oL rfl 38 (.tmp 37) rfl (dm.add (k*3)) rfl a.enc _ aA.out nL rfl (by kernel_rfl) ?_)|(refine jD rfl 38 (.tmp 8) (.tmp 38) rfl a.cs rfl rfl (qs _) rfl (tv _) ?_;intro aB b9 aZ b'))
   obtain⟨a0,ca⟩:=hg (X.out.to aZ) (b8.out.to aZ);obtain⟨cb,cc,eb,br⟩:=h5 (show g<aB.heap.size from a0.out.nr.box.lt) b9 (show wr.heap.size<aB.heap.size from b') aZ;clear b9 aZ b' aA b8;go_wp2_with fail;refine(q5 g s c aB a0.out.nr).mono ?_;rintro e a1 ⟨o,aa,rfl,ai,cd,ce,cf⟩;obtain⟨cg,ch,ci,aC,dq,dr,bt⟩:=k2 (a0.out.to ai) (ca.out.to ai) (cc.out.to ai) (And.intro cd ce) cf ai.size (br.out.trans (ai.mono br.out.size));clear ai cd ce cf a0 ca cc br;go_upto_region 10 with(first|(refine jD rfl 46 (.tmp 9) (.tmp 40) rfl o.cs rfl rfl (j4 o) rfl (ln o) ?_;intro wc cj ab dt))
   obtain⟨ck,cl⟩:=hg (cg.out.to ab) (ch.out.to ab);have cm:=ci.out.to ab;obtain⟨cn,co,cp⟩:=hs cj (show Lay o {c with mo:=aa} (hL (iQ aB.heap.size) wc) wc.heap.size from(dq.out.lay.below (oY ab)).more ab.size) (bt.out.trans (ab.mono bt.out.size));clear cj ab dt cg ch ci bt;have cq:=g' (vr g s c a wc ck.out.nr (ck.out.di.more (by omega)) cl.out dp.out);go_wp2_with (first|(refine hR cm nL (qs _) rfl rfl rfl rfl ?_));refine cq.out.mono ?_;rintro e cr ⟨du,t,E,rfl,aj,cs,ct,cu,cv⟩;obtain⟨dv,dw,cw,cx,dx,cy,cz,ec⟩:=mI cu cv aj cs ct (cn.out.hT aj (show a1.heap.size≠g from by have D:=cb.out;have F:=dr.out;omega)) (show Lay o {c with mo:=aa} (hL (iQ aB.heap.size) cr) cr.heap.size from(co.out.below (mF aj (nn cb.out))).more aj.size) aj.size;clear cu cv aj cs ct cm cn co cq cl;go_upto_region 11 with(first|(refine jD rfl 49 (.tmp 10) (.tmp 45) rfl du rfl rfl (vv cx.out) (by rw[cx.out];rfl) dx.out ?_;intro a2 cA ak dy))
   obtain⟨dz,a3,dA,dB,cB⟩:=jg cA ak (cy.out.to ak) (show Lay o {c with mo:=aa} a2 a2.heap.size from((cz.out.below (oY ak)).more ak.size).seen) (show hn g wr a2 from hn.trans' (hn.trans' (hn.jJ cp.out) cw.out) (hn.jJ ak));clear cA ak dy cy cz cp cw;cases t;focus
    obtain⟨s',c',V,al⟩:=dv.out rfl;obtain⟨a4,cC⟩:=hg (V.below a3.out) (And.intro al.p al.em);have cD:=g' (X.out.next cB.out a4.out ((al.di X.out.di).more (by omega)) al.hX (.inl al.ep));clear V al
   rotate_left;focus
    obtain⟨s',c',p,r,rfl,V,cE,aD⟩:=dw.out rfl;have a4:=g' (V.below a3.out);obtain⟨cD,am,dC⟩:=hs (X.out.next cB.out a4.out ((aD.di X.out.di (by have:=X.out.ep;omega)).more (by omega)) aD.hX (.inr aD.ep)) aD ((cE.below a3.out).more a3.out.size);clear V cE aD
   rotate_left;all_goals
    have aE:=g' (q5 g s' c' a2 a4.out);go_wp2_with fail;refine aE.out.mono ?_;rintro e bu ⟨z,a5,rfl,cF,cG,cH,bv⟩;obtain⟨aF,cI,dD,cJ⟩:=h5 (And.intro cG cH) bv.lay.seen bv.ok.mo cF;clear cF cG cH bv aE;go_upto_region 12 with(first|(refine jD rfl 46 (.tmp 13) (.tmp 49) rfl z.cs rfl rfl (j4 z) rfl (ln z) ?_;intro ao cK a6 dE))
    obtain⟨dF,a7,ac⟩:=hs cK ((cI.out.below a6).more a6.size) (cJ.out.trans (a6.mono cJ.out.size));clear cK a6 dE cI;obtain⟨cL,J⟩:=hg (cD.out.to ac.out) (kY (n7 aC.out.1) (n7 aF.out.1));have ap:=dA.out.to ac.out;have aq:=dF.out
   ·have cM:z.p=o.p:=J.out.2.1.trans (cC.out.1.trans J.out.1.1.symm)
    have cN:z.em=o.em:=J.out.2.2.2.2.2.2.2.2.2.trans (cC.out.2.trans J.out.1.2.2.2.2.2.2.2.2.symm);have cO:=fun W=>qD z.p o.p true (by simpa using cM) W;obtain⟨a8,bw⟩:=ho o.em;have a9:=ap.cell (j:=31) (v:= .bool a8) (by rw[←bw];rfl);have a':=aq.cell (j:=31) (v:= .bool a8) (by rw[←bw,←cN];rfl);have ed:(a8 !=a8)=false:=by simp
    obtain⟨ad,R⟩:=hg ap aq;clear cM cN bw aq ap;go_wp2_with (first|(refine wpList_load_mid rfl 24 (.tmp 52) rfl bu.heap.size 0 rfl z.p.cs.toList _ (fun j v K=>R.out.cell (oa z j v K)) hQ rfl (by kernel_rfl) ?_)|(refine wpList_load_mid rfl 24 (.tmp 54) rfl a1.heap.size 0 rfl o.p.cs.toList _ (fun j v K=>ad.out.cell (oa o j v K)) hQ rfl (by kernel_rfl) ?_));exact⟨⟨k+1,s',c',by go_num,by omega,cL.out⟩,by simp[intOf];omega⟩
   obtain⟨bx,ba⟩:=hg ((dC.out.below ac.out).more ac.out.size) ((dB.out.below ac.out).more ac.out.size);have bb:=dz.out.to ac.out;have bz:=bb.cell (j:=2) (v:= .bool p.q) rfl;have cP:=bb.cell (j:=13) (v:= .slice p.dn.A p.dn.n p.dn.c) rfl;have a9:=ap.cell (j:=31) (v:= .bool o.em) rfl;have a':=aq.cell (j:=31) (v:= .bool z.em) rfl;obtain⟨aG,bc⟩:=hk (!decide (z.p=o.p)||(z.em !=o.em));obtain⟨aH,U⟩:=hk (decide (z.p=o.p));have cO:=fun W=>qD z.p o.p aH (by rw[U];simp) W;have bA:=g' (show r.dn.length=p.dn.n from bx.out.dn.1);have cQ:=g' (show aG=true→r.dn≠[]from fun e=>by
    rcases am.out.par with D|D
    ·rcases am.out.qY with F|F
     ·have ay:z.p=o.p:=J.out.2.1.trans (D.trans J.out.1.1.symm)
      have aI:z.em=o.em:=J.out.2.2.2.2.2.2.2.2.2.trans (F.trans J.out.1.2.2.2.2.2.2.2.2.symm);rw[bc,ay,aI]at e;simp at e
     exact F
    exact D.1)
   have dG:=g' (show aH=false→p.q=true∧aG=true from fun e=>by
    have cR:¬z.p=o.p:=by rw[U]at e;simpa using e
    refine⟨?_,by rw[bc];simp[cR]⟩;rcases am.out.par with D|D
    ·exact absurd (J.out.2.1.trans (D.trans J.out.1.1.symm)) cR
    exact D.2)
   obtain⟨ay,bB⟩:=ho o.em;obtain⟨aI,bC⟩:=ho z.em;rw[bB]at a9;rw[bC]at a';obtain⟨ee,bD⟩:=ho p.q;rw[bD]at bz;obtain⟨dH,dI,ad,ef,R,dJ⟩:=ku (show aG=(!aH||(aI !=ay))from by rw[bc,U,bB,bC]) bD ap bb aq (show p.dn.n≤9223372036854775807 from vB bx.out.q0);clear U bc bB bC bD aq bb ap;go_upto_region 15 with(fail)
   go_cut [14] (fun c bE=>c= .bool aG∧bE=ao)
   case first=>
    as_aux_lemma=>
     clear bz cP;cases aH;rotate_left;all_goals
      go_wp2_with (first|(refine wpList_load_mid rfl 24 (.tmp 64) rfl bu.heap.size 0 rfl z.p.cs.toList _ (fun j v K=>R.out.cell (oa z j v K)) hQ rfl (by kernel_rfl) ?_)|(refine wpList_load_mid rfl 24 (.tmp 66) rfl a1.heap.size 0 rfl o.p.cs.toList _ (fun j v K=>ad.out.cell (oa o j v K)) hQ rfl (by kernel_rfl) ?_));go_meet;exact⟨by rw[dH.out];rfl,rfl⟩
   case rest=>
    obtain⟨rfl,ae⟩:=hcut;replace ae:=ae.symm;subst ae;go_upto_region 16 with(fail)
    go_cut [94] (fun c bE=>c= .bool false∧bE=ao)
    case first=>
     as_aux_lemma=>
      clear a9 a';cases aH;focus
       obtain⟨D,F⟩:=dG.out rfl;rw[dI.out]at D;subst D F;have af:p.dn.n≠0:=fun e=>cQ.out rfl (List.eq_nil_of_length_eq_zero (bA.out.trans e));have dK:((p.dn.n:Int)==0)=false:=by simp;omega
       have dL:(p.dn.n==0)=false:=by simpa using af
       have dM:decide (p.dn.n=0)=false:=by simpa using af
       clear af
      rotate_left;focus
       cases aG;rotate_left;focus
        have af:p.dn.n≠0:=fun e=>cQ.out rfl (List.eq_nil_of_length_eq_zero (bA.out.trans e));have dK:((p.dn.n:Int)==0)=false:=by simp;omega
        have dL:(p.dn.n==0)=false:=by simpa using af
        have dM:decide (p.dn.n=0)=false:=by simpa using af
        clear af
      all_goals
       go_wp2_with (first|(refine qL (by rfl) 24 (.tmp 84) rfl bu.heap.size 0 rfl z.p.cs.toList _ (fun j v K=>R.out.cell (oa z j v K)) hQ rfl (by kernel_rfl) ?_)|(refine qL (by rfl) 24 (.tmp 86) rfl a1.heap.size 0 rfl o.p.cs.toList _ (fun j v K=>ad.out.cell (oa o j v K)) hQ rfl (by kernel_rfl) ?_));go_meet;exact⟨rfl,rfl⟩
    case rest=>
     obtain⟨rfl,ae⟩:=hcut;replace ae:=ae.symm;subst ae;clear a9 a' bz cO;go_wp2;go_loopw [98] (fun bF dN=>∃j:Nat,bF= .int .i64 j∧j≤p.dn.n∧Below ao.heap.size ao dN) (fun bF _=>p.dn.n-(intOf bF).toNat)
     case atStart=>exact⟨0,rfl,h6,hz⟩
     case round=>
      as_aux_lemma=>
       obtain⟨j,rfl,eg,av⟩:=hrel;have Y:=g' av;clear av cP;have eh:=dJ.out;by_cases bd:j<p.dn.n
       ·have aI:=hZ bd
        obtain⟨dO,cS,_,bG⟩:=(bx.out.dn.below Y.out).2 j bd;replace bG:wr.cell? (dO.add j)=some (.int .i64 (r.dn.getD j 0)):=bG;have bH:j<r.dn.length:=by rw[bA.out];exact bd
        have cT:r.dn.getD j 0∈r.dn:=by rw[iJ,List.getElem?_eq_getElem bH];exact List.getElem_mem bH
        obtain⟨i,m,m',cU,bI,cV,cW,F⟩:=am.out.dn _ cT;rw[cU]at bG;rw[cS];obtain⟨ei,bJ,cX,_⟩:=aC.out.2.st bI;obtain⟨ej,bK,cY,_⟩:=aF.out.2.st cV;have ar:=ba.out.mo.len hp.len (by omega);have cZ:=a7.out.mo.len hp.len (by omega);have c0:i<o.mo.n:=by have h:=(jh.1 bJ).1;have bL:(({c with mo:=aa}:hl).mo)=aa:=rfl;rw[bL]at ar;omega
        have c1:i<z.mo.n:=by have h:=(jh.1 bK).1;have bL:(({c' with mo:=a5}:hl).mo)=a5:=rfl;rw[bL]at cZ;omega
        obtain⟨aJ,aK,_,c2⟩:=(ba.out.mo.below Y.out).cell hp.len c0 bJ (by omega);obtain⟨ag,aL,_,aM⟩:=(a7.out.mo.below Y.out).cell hp.len c1 bK (by omega);have ek:wr.cell? ⟨(aJ.add (i*33)).block,(aJ.add (i*33)).off+30,none⟩=some (.int .i64 m.st):=by rw[←cX];exact c2 30 _ rfl
        have c3:wr.cell? ⟨(ag.add (i*33)).block,(ag.add (i*33)).off+30,none⟩=some (.int .i64 3):=by rw[←cW,←cY];exact aM 30 _ rfl
        have dP:=(ad.out.to Y.out).cell (j:=38) (v:= .slice (some aJ) o.mo.n o.mo.c) (by rw[←aK];rfl);have c4:=(R.out.to Y.out).cell (j:=38) (v:= .slice (some ag) z.mo.n z.mo.c) (by rw[←aL];rfl);have el:decide ((i:Int)<0)=false:=by simp
        have em:decide (o.mo.n≤i)=false:=by simp;omega
        have eo:decide ((o.mo.n:Int)≤(i:Int))=false:=by simp;omega
        have ep:decide (z.mo.n≤i)=false:=by simp;omega
        have eq:decide ((z.mo.n:Int)≤(i:Int))=false:=by simp;omega
        have er:decide ((2:Int)<m.st)=false:=by simp;omega
        have dQ:decide (i<o.mo.n)=true:=by simpa using c0
        have et:decide (i<z.mo.n)=true:=by simpa using c1
        have dR:decide ((i:Int)<(o.mo.n:Int))=true:=by simp;omega
        have eu:decide ((i:Int)<(z.mo.n:Int))=true:=by simp;omega
        skip;clear cU bI cV cW F bJ bK cX cY ar cZ aK aL c2 aM cT bH cS;go_wp2;exact⟨⟨j+1,by go_num,by omega,Y.out⟩,by simp[intOf];omega⟩
       have aI:=h1 bd;have c4:=(R.out.to Y.out).cell (j:=38) (v:= .slice z.mo.A z.mo.n z.mo.c) rfl;have c5:=g' (a7.out.mo.len hp.len (by omega));have ev:z.mo.n≤9223372036854775807:=vB dD.out;go_wp2;go_loopw [140] (fun Z dS=>∃m:Nat,Z= .int .i64 m∧m≤z.mo.n∧Below ao.heap.size ao dS) (fun Z _=>z.mo.n-(intOf Z).toNat)
       case atStart=>exact⟨0,rfl,h6,Y.out⟩
       case round=>
        as_aux_lemma=>
         obtain⟨m,rfl,bI,c6⟩:=hrel;have aN:=g' c6;clear c6 c4;by_cases bM:m<z.mo.n
         ·have dT:=hZ bM
          obtain⟨dU,bN⟩:∃x,c'.mo[m]?=some x:=⟨_,iB (by have h:a5.length=z.mo.n:=c5.out;have F:=aF.out.2.len;omega)⟩;obtain⟨x,aW,c7,c8⟩:=aF.out.2.st bN;obtain⟨aJ,aK,_,az⟩:=(a7.out.mo.below aN.out).cell hp.len bM aW (by omega);have aA:=g' az;rw[aK];obtain⟨aE,dV⟩:=hg (And.intro c7 c8) bN;clear az aW aK c7 c8 bN;go_upto_region 27 with(first|(refine oL rfl 59 (.tmp 143) rfl (aJ.add (m*33)) rfl x.enc _ aA.out nE rfl (by kernel_rfl) ?_)|(refine jD rfl 59 (.tmp 18) (.tmp 144) rfl x.cs rfl rfl (by kernel_rfl) rfl (qK x) ?_;intro dW bO bP dX))
          have dY:=bO.cell (j:=30) (v:= .int .i64 x.st) rfl;have dZ:=bO.cell (j:=28) (v:= .int .i64 x.en) rfl;have d0:=((ad.out.to aN.out).to bP).cell (j:=29) (v:= .int .i64 o.ep) rfl;have aO:=g' (aN.out.trans (bP.mono aN.out.size));have ar:=ba.out.mo.len hp.len (by omega);have d1:=am.out.kT;have c9:m<o.mo.n:=by have h:a5.length=z.mo.n:=c5.out;have F:=aF.out.2.len;have D:=aC.out.2.len;have d2:aa.length=o.mo.n:=ar;omega
          obtain⟨d3,bQ⟩:∃y,c.mo[m]?=some y:=⟨_,iB (by have D:=aC.out.2.len;have d2:aa.length=o.mo.n:=ar;omega)⟩;obtain⟨y,da,aP,_⟩:=aC.out.2.st bQ;obtain⟨ag,aL,_,aM⟩:=(ba.out.mo.below aO.out).cell hp.len c9 da (by omega);have c3:dW.cell? ⟨(ag.add (m*33)).block,(ag.add (m*33)).off+30,none⟩=some (.int .i64 y.st):=aM 30 _ rfl;have dP:=(ad.out.to aO.out).cell (j:=38) (v:= .slice (some ag) o.mo.n o.mo.c) (by rw[←aL];rfl);have dQ:decide (m<o.mo.n)=true:=by simpa using c9
          have dR:decide ((m:Int)<(o.mo.n:Int))=true:=by simp;omega
          have aQ:=g' (show x.st=2→y.st=1→x.en≤o.ep from fun D F=>by rw[aE.out.2,J.out.1.2.2.2.2.2.2.1];exact am.out.ends m d3 dU bQ dV.out (by rw[←aE.out.1];exact D) (by rw[←aP];exact F));clear ar d1 bQ da aP aL aM bO bP dX aA;obtain⟨d4,db⟩:=ho x.st;obtain⟨d5,aP⟩:=ho y.st;obtain⟨d6,dc⟩:=ho x.en;obtain⟨d7,dd⟩:=ho o.ep;rw[db]at dY aQ;rw[dc]at dZ aQ;rw[aP]at c3 aQ;rw[dd]at d0 aQ;clear db aP dc dd;by_cases D:d4=2
          ·subst D
           by_cases F:d5=1
           ·subst F
            have ew:decide (d7<d6)=false:=by have:=aQ.out rfl rfl;simp;omega
            go_wp2;exact⟨⟨m+1,by go_num,by omega,aO.out⟩,by simp[intOf];omega⟩
           have ex:=iM F;have ey:=h1 F;clear F;go_wp2;exact⟨⟨m+1,by go_num,by omega,aO.out⟩,by simp[intOf];omega⟩
          have ez:=iM D;have eA:=h1 D;clear D;go_wp2;exact⟨⟨m+1,by go_num,by omega,aO.out⟩,by simp[intOf];omega⟩
         have dT:=h1 bM;have d8:=g' (cL.out.to aN.out);go_wp2;exact⟨⟨k+1,s',c',by go_num,by omega,d8.out⟩,by simp[intOf];omega⟩
  have ay:=h1 aY;go_wp2;go_ret;exact⟨rfl,X.out.below⟩
end hB
end Go.Proofs.YtffbipddbnkdjaaGreat
