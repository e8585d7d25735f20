/- What functions compute at any arguments, and plain facts: The law TopMint, walked: what a tick mints is its budget or nothing. Conditions: those that each theorem names. -/
import Derived.Test.YtffbipddbnkdjaaGreatZ35
set_option maxRecDepth 100000
set_option maxHeartbeats 40000000
set_option linter.all false
open Go Go.Proofs.Tryz
open Go.Value(int)
open Go.IntKind(i64 u64)
variable{A T:Option Addr}{n g b L k B i x a m j q c p s r d h u N y:Nat}{E z:Int}{P:Program}{w W X Z:World}{e t:TypeId}{f:Nat→Value}{l:List Bool}{V U:Value}{Y:List Nat}{S:List Value}{R:List Int}{Q:Array Value}{O:List (List Nat)}{M:Bool}{K:Ending}{J:Addr}{I:Nat→Nat}{H:Option Nat}
namespace Go.Proofs.YtffbipddbnkdjaaGreat
namespace hB
open RowKit
open hG hf hC h0 hU
theorem HF(F:hx)(o:Nat)(pu:Sl)(Z:Option Addr)(aa ag:Nat)(us:List Nat)(K:List Fo)(A:Option Addr)(n bb:Nat)(xs:List jC)(w:World)(h:vu w pu Z aa us K o A n xs):Calls prog 3 #[.agg (je F o pu ⟨Z,aa,ag⟩),.slice A n bb] w fun e w'=>e= .returned (.bool true)∧Below w.heap.size w w':=by
 obtain⟨aK,aL,ar,bc⟩:=iF w (je F o pu ⟨Z,aa,ag⟩) 28;obtain⟨au,aM,av,aN,aO,ah,bd⟩:=k2 h aL ar bc (fun(W:World) (be:Below aK.heap.size aK W)=>lE F o pu Z aa ag us K W ⟨h.u.1,h.u.2.1,(h.u.2.2.to ar).to be⟩ h.un ((h.f.to ar).to be) h.m h.fb) (show(je F o pu ⟨Z,aa,ag⟩)[24]?=some (.int .u64 o)from rfl) (show w.heap.size<aK.heap.size by rw[←aL];simp);obtain⟨aP,aQ⟩:=ho (je F o pu ⟨Z,aa,ag⟩);have bf:(prog.info? 28).map (·.size)=some aP.size:=by rw[←aQ];exact qp _ _ _ _
 rw[aQ]at aN aM aO ah⊢;have ca:=g' bf;clear aL ar bc h aQ bf;go_enter func3,ntmps3;go_upto_region 1 with(fail)
 rw[aM.out];clear aM;go_wp2_with fail;refine hI (vt _) fun cb aR=>?_;have aS:=aN.to aR;have ai:=g' aR;clear aR;go_wp2_with (first|(refine hR aS np ca.out rfl rfl rfl rfl ?_));refine(aO.out cb ai.out).mono ?_;rintro e cc ⟨v,b,rfl,aT,bg⟩;obtain⟨bh,bi,aj,bj⟩:=h5 bg ai.size (ai.trans (aT.mono ai.size)) (aS.to aT);clear aT aS aN ai aO bg;cases b
 ·go_wp2
  go_ret;exact⟨rfl,hJ av.out aj.out⟩
 obtain⟨_,_,g,aw,me,ma,rfl,cd,O⟩:=bh.out rfl;obtain⟨bk,ax,bl,ab⟩:=h5 (tw A n bb 60 xs cc ((au.a.to av.out).to aj.out) au.an) O (show w.heap.size<g from by have U:=bd.out;have V:=bi.out;omega) (show DI 0 (jf F o (iH (us++K.map Fo.hD)) aw me ma) (jS F us K)∧(jf F o (iH (us++K.map Fo.hD)) aw me ma).hX=o∧(jf F o (iH (us++K.map Fo.hD)) aw me ma).ep=0 from⟨⟨hj,fun x ce=>by cases ce⟩,rfl,rfl⟩);obtain⟨bm,bn⟩:=ho (jf F o (iH (us++K.map Fo.hD)) aw me ma);obtain⟨bo,bp⟩:=ho (jS F us K);rw[bn]at ax ab;rw[bp]at ax ab;clear bn bp O cd bh bi;go_wp2_with fail;refine bk.mono ?_;rintro e cf ⟨b,rfl,ay,bq⟩;obtain⟨br,aU⟩:=hg bq (hJ av.out (aj.trans (ay.mono aj.size)));have bt:=g' (show LI w aP o g 0 bm bo cf from⟨aU.out,bj.to ay,ax.below ay,bl.out,ab.1,ab.2.1,by rw[ab.2.2];exact⟨Int.le_refl 0,Int.le_refl 0⟩⟩);clear ay bq bk ax ab bl bj aj;cases b
 ·go_wp2
  go_ret;exact⟨rfl,aU.out⟩
 have bu:=g' (br.out rfl);have cg:=g' (au.a.row.len jC.len (by omega));clear br aU av bd;go_wp2;go_loopw [33] (fun aV wr=>∃(k:Nat) (s:hA) (c:hl),aV= .int .i64 k∧k≤n∧LI w aP o g k s c wr) (fun aV _=>n-(intOf aV).toNat)
 case atStart=>exact⟨0,bm,bo,rfl,h6,bt.out⟩
 case round=>
  clear bt;obtain⟨k,s,c,rfl,cA,bv⟩:=hrel;have I:=g' bv;clear bv;have cB:n≤60:=bu.1;by_cases az:k<n
  ·have ch:=hZ az
   obtain⟨a,aW⟩:∃a,xs[k]?=some a:=⟨_,iB (by rw[cg.out];exact az)⟩;have aX:=g' (au.a.to I.below);have aY:=List.mem_of_getElem? aW;obtain⟨ci,rfl,_,bw⟩:=aX.row.cell jC.len az aW (by omega);obtain⟨bx,bz,cj⟩:=hs bw (aX.qk a aY) (bu.2 a aY);clear bw aW aY aX;go_upto_region 9 with(first|(refine oL rfl 38 (.tmp 35) rfl (ci.add (k*3)) rfl a.enc _ bx.out nL rfl (by kernel_rfl) ?_)|(refine jD rfl 38 (.tmp 8) (.tmp 36) rfl a.cs rfl rfl (qs _) rfl (tv _) ?_;intro aA bA aB ck))
   obtain⟨aC,bB⟩:=hg (I.to aB) (bz.to aB);obtain⟨bC,bD,aZ⟩:=hs (show g<aA.heap.size from aC.nr.box.lt) bA aB;clear bA aB ck bx bz;go_wp2_with fail;refine(q5 g s c aA aC.nr).mono ?_;rintro e ak ⟨z,bE,rfl,ac,bF,bG,bH⟩;obtain⟨bI,bJ,bK,cl,cm,cn,a0⟩:=k2 (aC.to ac) (bB.to ac) (bD.to ac) (And.intro bF bG) bH ac.size (aZ.trans (ac.mono aZ.size));clear ac bF bG bH aC bB bD aZ;go_upto_region 10 with(first|(refine jD rfl 46 (.tmp 9) (.tmp 38) rfl z.cs rfl rfl (j4 z) rfl (ln z) ?_;intro wc bL X co))
   obtain⟨bM,bN⟩:=hg (bI.to X) (bJ.to X);have bO:=bK.to X;obtain⟨bP,bQ,bR⟩:=hs bL (show Lay z {c with mo:=bE} (hL (iQ aA.heap.size) wc) wc.heap.size from(cm.lay.below (oY X)).more X.size) (a0.trans (X.mono a0.size));clear bL X co bI bJ bK a0;have bS:=g' (vr g s c a wc bM.nr (bM.di.more (by omega)) bN.out cj.out);go_wp2_with (first|(refine hR bO nL (qs _) rfl rfl rfl rfl ?_));refine bS.mono ?_;rintro e bT ⟨cp,t,E,rfl,al,bU,bV,bW,bX⟩;obtain⟨cq,cr,bY,bZ,cs,b0,ct⟩:=k2 bW bX al bU bV (bP.hT al (show ak.heap.size≠g from by have U:=bC.out;have V:=cn.out;omega)) (show Lay z {c with mo:=bE} (hL (iQ aA.heap.size) bT) bT.heap.size from(bQ.below (mF al (nn bC.out))).more al.size);clear bW bX al bU bV bO bP bQ bS bN;go_upto_region 11 with(first|(refine jD rfl 49 (.tmp 10) (.tmp 43) rfl cp rfl rfl (vv bZ.out) (by rw[bZ.out];rfl) cs.out ?_;intro cu b1 aD cv))
   obtain⟨am,b2,ao,b3⟩:=h5 b1 aD (b0.to aD) (show hn g wr cu from hn.trans' (hn.trans' (hn.jJ bR.out) bY.out) (hn.jJ aD));clear b1 aD cv b0 ct bR bY;cases t
   ·obtain⟨s',c',O,aE⟩:=cq.out rfl
    have ad:=g' (I.next b3.out (O.below b2.out) ((aE.di I.di).more (by omega)) aE.hX (.inl aE.ep));clear O aE;go_wp2;exact⟨⟨k+1,s',c',by go_num,by omega,ad.out⟩,by simp[intOf];omega⟩
   obtain⟨s',c',p,r,rfl,O,Q,ap⟩:=cr.out rfl;obtain⟨ad,G⟩:=hg (I.next b3.out (O.below b2.out) ((ap.di I.di (by have:=I.ep;omega)).more (by omega)) ap.hX (.inr ap.ep)) ap;obtain⟨b4,aq,b5,b6,_⟩:=n7 cl.1;have ae:=g' (And.intro b4 (And.intro aq (And.intro b5 b6)));have cC:=am.all;clear O Q ap b4 aq b5 b6;obtain⟨a1,b7⟩:=ho (p.mode==3);obtain⟨a2,b8⟩:=ho (p.mode==4);have cD:decide (p.mode=3)=a1:=by rw[←b7];rfl
   have cE:decide (p.mode=4)=a2:=by rw[←b8];rfl
   obtain⟨N,aF⟩:=hk (oA s.p p.act);obtain⟨aG,a3⟩:=hg (fun W=>xj z.p (by rw[ae.1];exact G.hc) p.act G.act W N (by rw[ae.1];exact aF)) (show z.gen+z.hO≤o∧o≤4611686018427387904 from by have U:=G.room;have V:=I.mo;rw[ae.2.2.1,ae.2.2.2];rw[V]at U;exact U);obtain⟨a4,aq⟩:=hk (o-z.gen);have cF:IntKind.u64.wrap ((o:Int) -(z.gen:Int))=(a4:Int):=by have:=a3.out;rw[aq];exact(IntWalk.u64_in _ (by omega)).trans (by omega)
   obtain⟨aH,b9⟩:=hk (a4-z.hO);have cG:IntKind.u64.wrap ((a4:Int) -(z.hO:Int))=(aH:Int):=by have:=a3.out;rw[b9];exact(IntWalk.u64_in _ (by omega)).trans (by omega)
   have af:=g' (show p.hO=if pZ p.mode=true∨aH<N then 0 else N from by rw[G.hO];unfold mP;rw[←aF];have U:=a3.out;have V:=I.mo;rw[V,←ae.2.2.1,←ae.2.2.2];simp only[show(o<z.gen+z.hO+N)↔(aH<N)from by omega]);obtain⟨cw,a5⟩:=hg (show p.act=0→p.hO=0 from fun e=>by rw[af.out,aF,e];unfold oA;simp) (show pZ p.mode=(a1||a2)from by unfold pZ;rw[b7,b8]);clear aq b9 aF;have aI:=ao.out;skip;have cx:=g' (show p.hO<18446744073709551616 from by have U:=af.out;have V:=xk s.p p.act G.act;have a6:=G.hO;unfold mP at a6;split at a6<;>omega);cases a1;focus
    cases a2;focus
     by_cases Q:aH<N;focus
      have R:p.hO=0:=by rw[af.out,if_pos (.inr Q)]
      have cy:=hZ Q;clear Q;go_wp2_with (first|(refine wpList_load_mid rfl 24 (.tmp 56) rfl ak.heap.size 0 rfl z.p.cs.toList _ (fun j v Y=>aI.cell (oa z j v Y)) hQ rfl (by kernel_rfl) ?_));refine hI (aG.out _) fun a7 D=>?_;have J:=g' (ad.to D);have S:=am.to D;have T:=ao.to D;have a8:=J.box.cell (j:=24) (v:= .int .u64 o) ah.out;have a9:=T.all;have a':=S.all;have ba:((p.hO:Int) !=0)=false:=by rw[R];simp
     rotate_left;focus
      have R:p.hO=N:=by rw[af.out,if_neg (not_or.2 ⟨by rw[a5.out];decide,Q⟩)]
      have cy:=h1 Q;clear Q;go_wp2_with (first|(refine wpList_load_mid rfl 24 (.tmp 56) rfl ak.heap.size 0 rfl z.p.cs.toList _ (fun j v Y=>aI.cell (oa z j v Y)) hQ rfl (by kernel_rfl) ?_));refine hI (aG.out _) fun a7 D=>?_;have J:=g' (ad.to D);have S:=am.to D;have T:=ao.to D;have a8:=J.box.cell (j:=24) (v:= .int .u64 o) ah.out;have a9:=T.all;have a':=S.all;have ba:((p.hO:Int) !=(N:Int))=false:=by rw[R];simp
    rotate_left 2;focus
     have R:p.hO=0:=by rw[af.out,if_pos (.inl (by rw[a5.out];rfl))]
     go_wp2_with (first|(refine wpList_load_mid rfl 24 (.tmp 56) rfl ak.heap.size 0 rfl z.p.cs.toList _ (fun j v Y=>aI.cell (oa z j v Y)) hQ rfl (by kernel_rfl) ?_));refine hI (aG.out _) fun a7 D=>?_;have J:=g' (ad.to D);have S:=am.to D;have T:=ao.to D;have a8:=J.box.cell (j:=24) (v:= .int .u64 o) ah.out;have a9:=T.all;have a':=S.all;have ba:((p.hO:Int) !=0)=false:=by rw[R];simp
   rotate_left 3;focus
    have R:p.hO=0:=by rw[af.out,if_pos (.inl (by rw[a5.out];rfl))]
    go_wp2_with (first|(refine wpList_load_mid rfl 24 (.tmp 56) rfl ak.heap.size 0 rfl z.p.cs.toList _ (fun j v Y=>aI.cell (oa z j v Y)) hQ rfl (by kernel_rfl) ?_));refine hI (aG.out _) fun a7 D=>?_;have J:=g' (ad.to D);have S:=am.to D;have T:=ao.to D;have a8:=J.box.cell (j:=24) (v:= .int .u64 o) ah.out;have a9:=T.all;have a':=S.all;have ba:((p.hO:Int) !=0)=false:=by rw[R];simp
   all_goals
    have cH:decide (p.hO<p.jB)=false:=by have:=G.jB;simp;omega
    have cI:IntKind.u64.wrap ((p.hO:Int) -(p.jB:Int))=(p.kept:Int):=by have U:=G.kept;have V:=G.jB;have a6:=cx.out;exact(IntWalk.u64_in _ (by omega)).trans (by omega)
    have cJ:decide ((4611686018427387904:Int)<(p.h7:Int))=false:=by have:=G.h7;simp;omega
    have cK:decide ((4611686018427387904:Int)<(p.j5:Int))=false:=by have:=G.j5;simp;omega
    clear D R S T;by_cases aJ:p.act=0
    ·have b':=cw.out aJ
     have cz:((p.act:Int)==0)=true:=by rw[aJ];rfl
     have cL:((p.hO:Int) !=0)=false:=by rw[b'];rfl
     clear aJ b';go_wp2;exact⟨⟨k+1,s',c',by go_num,by omega,J.out⟩,by simp[intOf];omega⟩
    have cz:((p.act:Int)==0)=false:=by simp;omega
    clear aJ;go_wp2;exact⟨⟨k+1,s',c',by go_num,by omega,J.out⟩,by simp[intOf];omega⟩
  have ch:=h1 az;go_wp2;go_ret;exact⟨rfl,I.below⟩
end hB
end Go.Proofs.YtffbipddbnkdjaaGreat
