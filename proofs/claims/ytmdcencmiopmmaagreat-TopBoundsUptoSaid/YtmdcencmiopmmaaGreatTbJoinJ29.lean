/- LiftTopBounds: joined, no condition of its own. -/
import Derived.Test.YtmdcencmiopmmaaGreatTbJoinT
import Derived.Test.YtmdcencmiopmmaaGreatTbJoinJ19
import Derived.Test.YtmdcencmiopmmaaGreatTbJoinJ28
set_option linter.unusedVariables false
set_option linter.unusedSimpArgs false
set_option maxRecDepth 100000
set_option maxHeartbeats 12000000
namespace Go.Proofs.YtmdcencmiopmmaaGreat
open Go.RowKit
theorem Ints.mF{w:World}{b o:Nat}{xs:List Int}{k:Nat}(h:Ints w (some ⟨b,o,none⟩) xs)(hk:k<xs.length):w.cell? ⟨b,o+k,none⟩=some (.int .i64 (ix xs k)):=by
 obtain⟨b',o',e,hc⟩:=h.at hk;cases e
 exact hc k hk
theorem qF(lo hi full k:Nat):KA lo hi full (k+1)=KA lo hi full k++UJ lo hi (full+k):=rfl
theorem Zh{base:Nat}{w1 w2:World}(hb:Below base w1 w2){p:Addr}(hp:p.block<base):w2.cell? p=w1.cell? p:=by
 unfold World.cell?;rw[hb.block _ hp]
theorem ps0{W w1:World}{a0 a1 a2:Addr}{u0 u1 u2:Value}(h:w1.cell? a0=some u0/\w1.cell? a1=some u1/\w1.cell? a2=some u2/\Below W.heap.size W w1):w1.cell? a0=some u0:=h.1
theorem oU{W w1:World}{a0 a1 a2:Addr}{u0 u1 u2:Value}(h:w1.cell? a0=some u0/\w1.cell? a1=some u1/\w1.cell? a2=some u2/\Below W.heap.size W w1):w1.cell? a1=some u1:=h.2.1
theorem Y1{W w1:World}{a0 a1 a2:Addr}{u0 u1 u2:Value}(h:w1.cell? a0=some u0/\w1.cell? a1=some u1/\w1.cell? a2=some u2/\Below W.heap.size W w1):Below W.heap.size W w1:=h.2.2.2
theorem AY{W w1:World}{a0 a1 a2:Addr}{u0 u1 u2:Value}(h:w1.cell? a0=some u0/\w1.cell? a1=some u1/\w1.cell? a2=some u2/\Below W.heap.size W w1):W.heap.size<=w1.heap.size:=h.2.2.2.size
theorem XN{W w1 w2:World}{B2 B3 base:Nat}{u0 u1 u2:Value}(h:w1.cell? ⟨B3,0,none⟩=some u0/\w1.cell? ⟨B2,1,none⟩=some u1/\w1.cell? ⟨B3,1,none⟩=some u2/\Below W.heap.size W w1)(h2:B2<W.heap.size)(h3:B3<W.heap.size)(hb:Below base w1 w2)(hB:W.heap.size<=base):
  w2.cell? ⟨B3,0,none⟩=some u0/\w2.cell? ⟨B2,1,none⟩=some u1/\w2.cell? ⟨B3,1,none⟩=some u2/\Below W.heap.size W w2:=
 ⟨(Zh hb (p:=⟨B3,0,none⟩) (QG h3 hB)).trans h.1,(Zh hb (p:=⟨B2,1,none⟩) (QG h2 hB)).trans h.2.1,(Zh hb (p:=⟨B3,1,none⟩) (QG h3 hB)).trans h.2.2.1,h.2.2.2.trans (hb.mono hB)⟩
structure KY (A B:List Int) (n full x y lo hi fi la:Nat):Prop where
 n2:2<=n
 n120:n<=120
 Ew:MI B n full
 all:DK A B 0 n x y
 head:DK A B 0 full lo hi
 tail:DK A B full n fi la
def OP(V:List Int)(w:World)(e:Ending)(w':World):Prop:=∃v,e=.returned (.tuple #[v,.int .i64 0])/\Sl w' v V/\Below w.heap.size w w'
theorem EM(aa ba:Option Addr)(n ca cb pa pb full x y lo hi fi la:Nat)(A B:List Int)(w:World)(ha:Sl w (.slice aa n ca) A)(hb:Sl w (.slice ba n cb) B)(heA:JZ A pa=0)(heB:JZ B pb=0)(bQ:pa<=n)(hpb:pb<=n)(H:KY A B n full x y lo hi fi la):
  Calls Tryz.prog 92 #[.agg #[.slice aa n ca,.int .i64 (pa:Int)],.agg #[.slice ba n cb,.int .i64 (pb:Int)]] w (OP (Kq B pa pb x y full lo hi fi la) w):=by
 have HH:=QQ H;have hn2:=H.n2;have hn:=H.n120;have X0:=H.all.yt;have hxy:=H.all.xy;have hlh:=H.head.xy;have hhf:=H.head.yt;have hfn:=H.Ew.le;have hff:=H.tail.fx;have hfl:=H.tail.xy;have hln:=H.tail.yt;have HA:=QQ ha;have HB:=QQ hb;have HEA:=QQ heA;have HEB:=QQ heB;have HAN:=QQ ha.get.1;have HBN:=QQ hb.get.1;obtain⟨iY,gp,rfl,-⟩:=ha.get.2.2.2.1.at (k:=0) (by rw[HAN.out];omega);obtain⟨bb1,UI,rfl,-⟩:=hb.get.2.2.2.1.at (k:=0) (by rw[HBN.out];omega);have hB2:=(QD.new w #[.slice (some ⟨iY,gp,none⟩) n ca,.int .i64 (pa:Int)] 39).alloc (.cells #[.slice (some ⟨bb1,UI,none⟩) n cb,.int .i64 (pb:Int)] 39);have hB3:=QD.new (w.alloc (.cells #[.slice (some ⟨iY,gp,none⟩) n ca,.int .i64 (pa:Int)] 39)) #[.slice (some ⟨bb1,UI,none⟩) n cb,.int .i64 (pb:Int)] 39;rw[QJ]at hB3;have hacc:=QS w (.cells #[.slice (some ⟨iY,gp,none⟩) n ca,.int .i64 (pa:Int)] 39) (.cells #[.slice (some ⟨bb1,UI,none⟩) n cb,.int .i64 (pb:Int)] 39);have hsz:w.heap.size+2<=((w.alloc (.cells #[.slice (some ⟨iY,gp,none⟩) n ca,.int .i64 (pa:Int)] 39)).alloc (.cells #[.slice (some ⟨bb1,UI,none⟩) n cb,.int .i64 (pb:Int)] 39)).heap.size:=by simp
 clear ha hb heA heB H;go_enter Tryz.func92,Tryz.ntmps92
 go_upto_region 1 with fail
 have HA1:=QQ (HA.out.below hacc);have HB1:=QQ (HB.out.below hacc);clear HA HB;generalize((w.alloc (.cells #[.slice (some ⟨iY,gp,none⟩) n ca,.int .i64 (pa:Int)] 39)).alloc (.cells #[.slice (some ⟨bb1,UI,none⟩) n cb,.int .i64 (pb:Int)] 39))=w1 at *;obtain⟨B2,sG⟩:∃B2,w.heap.size=B2:=⟨_,rfl⟩;obtain⟨B3,sD⟩:∃B3,w.heap.size+1=B3:=⟨_,rfl⟩;rw[sG]at hB2;rw[sD]at hB3;simp only[sD];simp only[sG];have hsz0:w.heap.size<=w1.heap.size:=by omega
 clear sG sD hsz;obtain⟨c0,c1,-⟩:=hB2.two;obtain⟨d0,d1,-⟩:=hB3.two;go_wp2_with fail
 refine(jq (some ⟨iY,gp,none⟩) n ca A pa _ HA1.out.get.2.2.2.1 HAN.out (by omega)).mono ?_;rintro e w2 ⟨rfl,hb2⟩;rw[HEA.out];have HA2:=QQ (HA1.out.below hb2);have HB2:=QQ (HB1.out.below hb2);have hB2':=hB2.below hb2 hB2.lt;have Nw:=hB3.below hb2 hB3.lt;have Qc:=QW hacc (by omega) hb2;have hz2:=hb2.size;clear HA1 HB1 c0 c1 d0 d1 hb2 hB2 hB3;obtain⟨c0,c1,-⟩:=hB2'.two;obtain⟨d0,d1,-⟩:=Nw.two;go_wp2_with fail
 refine(jq (some ⟨bb1,UI,none⟩) n cb B pb _ HB2.out.get.2.2.2.1 HBN.out (by omega)).mono ?_;rintro e w3 ⟨rfl,hb3⟩;rw[HEB.out];have yz:=QQ (HA2.out.below hb3);have HB3:=QQ (HB2.out.below hb3);have hB2:=hB2'.below hb3 hB2'.lt;have hB3:=Nw.below hb3 Nw.lt;have YG:=QW Qc (by omega) hb3;have hz3:=hb3.size;clear HA2 HB2 c0 c1 d0 d1 hb3 hB2' Nw;obtain⟨c0,c1,-⟩:=hB2.two;obtain⟨d0,d1,-⟩:=hB3.two;go_wp2_with fail
 refine(WS (some ⟨iY,gp,none⟩) (some ⟨bb1,UI,none⟩) n ca cb 0 n x y A B _ yz.out HB3.out (Qe _) (QU _) hn HH.out.all).mono ?_;rintro e w4 ⟨rfl,nq,rfl⟩;have TY:=below_drewN YG nq;have HAW:=QQ (yz.out.drewN nq);have HBW:=QQ (HB3.out.drewN nq);have fe:=hB2.drewN nq;have fO:=hB3.drewN nq;have hzW:w1.heap.size<=(w3.drewN nq).heap.size:=QL hz2 hz3;clear YG yz HB3 hB2 hB3 c0 c1 d0 d1 Qc;generalize w3.drewN nq=W at *;obtain⟨c0,q1,-⟩:=fe.two;obtain⟨q0,q2,-⟩:=fO.two;have Z5:=fe.lt;have Z4:=fO.lt;have xI:=QQ HBW.out.lt;have nX:=QQ (AV B pa pb x y full lo hi fi la);rcases Qi x y with Nh|Nh
 ·rw[decide_eq_true Nh]
  go_upto_region 14 with fail
  go_cut [13] (fun v wx=>∃vb,v=vb/\Sl wx vb ((([]++XV B pa x)++XV B x y)++XV B y pb)/\Below W.heap.size W wx)
  case first=>
   have hS0:(W.drew.cell? ⟨B3,0,none⟩=some (.slice (some ⟨bb1,UI,none⟩) n cb)/\W.drew.cell? ⟨B2,1,none⟩=some (.int .i64 (pa:Int))/\W.drew.cell? ⟨B3,1,none⟩=some (.int .i64 (pb:Int))/\Below W.heap.size W W.drew):=⟨q0,q1,q2,(Qx _ _).drew⟩
   go_region_law (first|(go_simp;go_at_call 149;((with_reducible refine(Yd B2 B3 (some ⟨bb1,UI,none⟩) n cb pa _ (ps0 ‹_›) (oU ‹_›)).mono ?_);rintro e w4 ⟨J4,rfl,Av,fE,hb4⟩;have YS:W.heap.size<=J4:=QL (AY ‹_›) Av;have bY:=XN ‹_› Z5 Z4 hb4 (AY ‹_›);have hT:=bY;obtain⟨r0,r1,r2,-⟩:=hT))|(go_simp;go_at_call 152;((with_reducible refine(JV J4 J4 0 (some ⟨bb1,UI,none⟩) n cb pa x y B _ _ ((xI.out.Xn (Y1 ‹_›)).imp (fun q hq=>QG hq YS)) fE (by omega) hxy X0 hn (by decide)).mono ?_);rintro e w5 ⟨rfl,fD,hb5,Ng⟩;have hS5:=XN ‹_› Z5 Z4 hb5 YS;have hT:=hS5;obtain⟨r0,r1,r2,-⟩:=hT))|(go_simp;go_at_call 151;((with_reducible refine(X3 J4 J4 2 (some ⟨bb1,UI,none⟩) n cb y pb B _ _ ((xI.out.Xn (Y1 ‹_›)).imp (fun q hq=>QG hq YS)) fD (by omega) hpb hn (by decide)).mono ?_);rintro e w6 ⟨rfl,rf,hb6,eG⟩;have fA:=XN ‹_› Z5 Z4 hb6 YS;have hT:=fA;obtain⟨r0,r1,r2,-⟩:=hT;obtain⟨cB,Uw,mZ,QXM,hl6⟩:=rf;obtain⟨-,-,k6,-⟩:=Uw.three;obtain⟨O1,Ot,O0,rfl⟩:=mZ.form)))
   all_goals
    have hbW:Below W.heap.size W w6:=Y1 ‹_›;have rG:=mZ.sl;go_wp2;go_meet;exact⟨_,rfl,rG,hbW⟩
  case rest=>
   obtain⟨vb,rfl,MV,IJ⟩:=hcut;obtain⟨ab,nb,cb2,rfl,-⟩:=id MV;obtain⟨mf,hb0⟩:∃s,(([]++XV B pa x)++XV B x y)++XV B y pb=s:=⟨_,rfl⟩;have HB0:=QQ hb0;rw[hb0]at MV;have aH:=QQ MV;have QQG:=QQ (HAW.out.below IJ);have FP:=QQ (HBW.out.below IJ);have Et:=fe.below IJ Z5;have Es:=fO.below IJ Z4;have Ep:=QW TY (by omega) IJ;have hzV:=IJ.size;clear MV q0 q1 q2 c0 xI fe fO HAW HBW IJ TY hb0;have Z5:=Et.lt;have Z4:=Es.lt;obtain⟨V0,hV0⟩:∃V,V=wc:=⟨_,rfl⟩;subst hV0;go_wp2
   go_loopw [14] (fun i wr=>∃k:Nat,i=.int .i64 (k:Int)/\full<=k/\k<=n/\∃m,wr=V0.drewN m) (fun i _=>(intOf i).toNat)
   case atStart=>exact⟨n,rfl,hfn,QU _,0,rfl⟩
   case round=>
    obtain⟨k,rfl,hk1,hk2,m,rfl⟩:=hrel;obtain⟨c0,q1,-⟩:=(Et.drewN m).two;obtain⟨q0,q2,-⟩:=(Es.drewN m).two;by_cases hkf:full<k
    ·have i1:(0:Int)<(k:Int):=by omega
     have e1:=(FP.out.drewN m).get.2.2.2.1.mF (k:=k-1) (by rw[HBN.out];omega);have i2:(k:Int)-1=((k-1:Nat):Int):=by omega
     have i3:((k-1:Nat):Int)<(n:Int):=by omega
     have he:(ix B (k-1)==32)=true:=by simpa using HH.out.Ew.blank (k-1) (by omega) (by omega)
     go_wp2;go_roundw
     case rel=>exact⟨k-1,rfl,by omega,by omega,_,rfl⟩
     case measure=>simp[intOf];omega
    ·obtain rfl:k=full:=by omega
     go_upto_region 16 with fail
     go_cut [86] (fun v wx=>v=.bool false/\wx=V0.drewN m)
     case first=>
      by_cases h0:0<k
      ·have i1:(0:Int)<(k:Int):=by omega
       have e1:=(FP.out.drewN m).get.2.2.2.1.mF (k:=k-1) (by rw[HBN.out];omega);have i2:(k:Int)-1=((k-1:Nat):Int):=by omega
       have i3:((k-1:Nat):Int)<(n:Int):=by omega
       have he:(ix B (k-1)==32)=false:=by simpa using HH.out.Ew.last h0
       exact Quy
      ·have i1:¬(0:Int)<(k:Int):=by omega
       exact Quy
     case rest=>
      obtain⟨rfl,rfl⟩:=hcut;go_wp2_with fail
      refine(WS (some ⟨iY,gp,none⟩) (some ⟨bb1,UI,none⟩) n ca cb 0 k lo hi A B _ (QQG.out.drewN m) (FP.out.drewN m) (Qe _) hk2 hn HH.out.head).mono ?_;rintro e w4 ⟨rfl,nq1,rfl⟩;have aG:=QQ ((aH.out.drewN m).drewN nq1);have mY:=below_drewN (below_drewN Ep m) nq1;have HAY:=QQ ((QQG.out.drewN m).drewN nq1);have HBY:=QQ ((FP.out.drewN m).drewN nq1);have sH:=(Et.drewN m).drewN nq1;have sF:=(Es.drewN m).drewN nq1;have hzY:W.heap.size<=((V0.drewN m).drewN nq1).heap.size:=hzV;clear QQG FP Et Es Z5 Z4 Ep aH c0 q0 q1 q2 hzV hkf hk1;generalize((V0.drewN m).drewN nq1)=Y at *;obtain⟨c0,q1,-⟩:=sH.two;obtain⟨q0,q2,-⟩:=sF.two;go_wp2_with fail
      refine(WS (some ⟨iY,gp,none⟩) (some ⟨bb1,UI,none⟩) n ca cb k n fi la A B _ HAY.out HBY.out hk2 (QU _) hn HH.out.tail).mono ?_;rintro e w4 ⟨rfl,oD,rfl⟩;have nU:=QQ (aG.out.drewN oD);have Ep:=below_drewN mY oD;have FP:=QQ (HBY.out.drewN oD);have Et:=sH.drewN oD;have Es:=sF.drewN oD;have hzX:W.heap.size<=(Y.drewN oD).heap.size:=hzY;clear HAY HBY sH sF aG c0 q0 q1 q2 hzY mY;generalize(Y.drewN oD)=V at *;have Z5:=Et.lt;have Z4:=Es.lt;obtain⟨c0,q1,-⟩:=Et.two;obtain⟨q0,q2,-⟩:=Es.two;obtain⟨full,hfull⟩:∃f,f=k:=⟨_,rfl⟩;subst hfull;rcases Qi fi la with htl|htl
      ·rw[decide_eq_true htl]
       go_wp2
       go_loopw [13,21] (fun bv p wr=>∃P j:Nat,p=.int .i64 (P:Int)/\Hid (P=full+j)/\j<=fi+1-full/\P<=fi+1/\Sl wr bv (Ye mf ((KA lo hi full j).map (fun p=>WC B pa p pb)))/\Below V.heap.size V wr) (fun _ p _=>fi+1-(intOf p).toNat)
       case atStart=>exact⟨full,0,rfl,QQ rfl,Qe _,by omega,nU.out,Qx _ _⟩
       case round=>
        obtain⟨P,j,rfl,HP,hj,Qze,hbj,hbr⟩:=hrel;obtain⟨abj,nbj,cbj,rfl,-⟩:=id hbj;by_cases hlt:P<=fi
        ·obtain⟨BB,fI⟩:∃BB,Ye mf ((KA lo hi full j).map (fun p=>WC B pa p pb))=BB:=⟨_,rfl⟩
         have aI:=QQ fI;rw[fI]at hbj;have HBR:=QQ hbj;have fB:P<=n:=by omega
         have hPf:P<=fi:=by omega
         have i1:((P:Nat):Int)<=(fi:Int):=by omega
         have fT:=Et.below hbr Z5;have fM:=Es.below hbr Z4;have xI:=QQ (FP.out.below hbr).lt;clear fI hbj q0 q1 q2 c0;obtain⟨-,q1,-⟩:=fT.two;obtain⟨q0,q2,-⟩:=fM.two;have QWH:=Z5;have QWG:=Z4;have Z5:=fT.lt;have Z4:=fM.lt;obtain⟨V2,hV2⟩:∃V,V=wr:=⟨_,rfl⟩;subst hV2;by_cases hm:lo<hi
         ·have HPA:=QQ (show(UJ lo hi (full+j))=[[(lo,some hi),(P,none)],[(P,none),(lo,some hi)]] by unfold UJ;rw[if_pos hm,<-HP.out])
          rw[decide_eq_true hm];go_upto_region 25 with fail
          go_cut [22] (fun v wx=>∃us,Vs wx v us/\Lists wx us [(([]++XV B pa P)++[11])++XV B P pb]/\Below V2.heap.size V2 wx)
          case first=>
           exact QkS
          case rest=>
           obtain⟨us0,QKK,QKN,hbx0⟩:=hcut;obtain⟨va0,vn0,vc0,rfl,-⟩:=QKK;have QVu:=QQ (HBR.out.below hbx0);have QXG:=QW hbr hbr.size hbx0;have QXo:=fT.below hbx0 Z5;have QXn:=fM.below hbx0 Z4;have QUm:=QQ ((FP.out.below QXG).lt);clear QKN q0 q1 q2 HBR xI hbx0 hbr fT fM;have HBR:=QVu;have hbr:=QXG;have xI:=QUm;obtain⟨-,q1,-⟩:=QXo.two;obtain⟨q0,q2,-⟩:=QXn.two;have Z5:=QXo.lt;have Z4:=QXn.lt;obtain⟨V4,hV4⟩:∃V,V=wc:=⟨_,rfl⟩;subst hV4;go_upto_region 27 with fail
           go_cut [22] (fun v wx=>∃us,Vs wx v us/\Lists wx us [(((([]++XV B pa lo)++XV B lo hi)++XV B hi P)++[11])++XV B P pb,(((([]++XV B pa P)++[11])++XV B P lo)++XV B lo hi)++XV B hi pb]/\Below V4.heap.size V4 wx)
           case first=>
            refine wp_region_held_drew (S:=(fun w'=>w'.cell? ⟨B3,0,none⟩=some (.slice (some ⟨bb1,UI,none⟩) n cb)/\w'.cell? ⟨B2,1,none⟩=some (.int .i64 (pa:Int))/\w'.cell? ⟨B3,1,none⟩=some (.int .i64 (pb:Int))/\Below V4.heap.size V4 w')) (by kernel_rfl) ⟨q0,q1,q2,(Qx _ _).drew⟩ ?_;intro hSd;refine QF 0 ⟨some 131,.move (.tmp 9),_,_,_,_⟩ ((.func (.func 149) #[] #[.pointer (some ⟨B3,0,none⟩),.pointer (some ⟨B2,0,none⟩)])) ?_;simp only[Act.put,QZ,QX,QY];refine QF 2 ⟨some 133,.move (.tmp 15),_,_,_,_⟩ ((.int .i64 (lo:Int))) ?_;simp only[Act.put,QZ,QX,QY];refine QF 3 ⟨some 134,.move (.tmp 16),_,_,_,_⟩ ((.int .i64 (hi:Int))) ?_;simp only[Act.put,QZ,QX,QY];refine QF 5 ⟨some 136,.move (.tmp 21),_,_,_,_⟩ ((.int .i64 (P:Int))) ?_;simp only[Act.put,QZ,QX,QY];refine QF 7 ⟨some 138,.fieldAddr 39 (.tmp 3) 1,_,_,_,_⟩ ((.pointer (some ⟨B3,1,none⟩))) ?_;simp only[Act.put,QZ,QX,QY];refine QF 8 ⟨some 139,.load 3 (.tmp 138),_,_,_,_⟩ ((.int .i64 (pb:Int))) ?_;simp only[Act.put,QZ,QX,QY];refine QF 13 ⟨some 144,.move (.tmp 9),_,_,_,_⟩ ((.func (.func 149) #[] #[.pointer (some ⟨B3,0,none⟩),.pointer (some ⟨B2,0,none⟩)])) ?_;simp only[Act.put,QZ,QX,QY];refine QF 15 ⟨some 146,.move (.tmp 21),_,_,_,_⟩ ((.int .i64 (P:Int))) ?_;simp only[Act.put,QZ,QX,QY];refine QF 17 ⟨some 148,.move (.tmp 15),_,_,_,_⟩ ((.int .i64 (lo:Int))) ?_;simp only[Act.put,QZ,QX,QY];refine QF 18 ⟨some 149,.move (.tmp 16),_,_,_,_⟩ ((.int .i64 (hi:Int))) ?_;simp only[Act.put,QZ,QX,QY];refine QF 20 ⟨some 151,.fieldAddr 39 (.tmp 3) 1,_,_,_,_⟩ ((.pointer (some ⟨B3,1,none⟩))) ?_;simp only[Act.put,QZ,QX,QY];refine QF 21 ⟨some 152,.load 3 (.tmp 151),_,_,_,_⟩ ((.int .i64 (pb:Int))) ?_;simp only[Act.put,QZ,QX,QY];refine QO (rs:=[1]) (by kernel_rfl) (by simp) ?_;refine QA (o:=⟨some 132,_,_,_,_,_⟩) rfl (fun K hK=>?_) ?_
            ·go_simp
             refine(Yd B2 B3 (some ⟨bb1,UI,none⟩) n cb pa _ (ps0 ‹_›) (oU ‹_›)).mono ?_;rintro e w4 ⟨J4,rfl,Av,fE,hb4⟩;have YS:V4.heap.size<=J4:=QL (AY ‹_›) Av;have bY:=XN ‹_› Z5 Z4 hb4 (AY ‹_›);dsimp only;refine hK.out _ _ bY (fun hHeld=>?_);clear hK K;refine QO (rs:=[4]) (by kernel_rfl) (by simp) ?_;refine QA (o:=⟨some 135,_,_,_,_,_⟩) rfl (fun K hK=>?_) ?_
             ·go_simp
              refine(JV J4 J4 0 (some ⟨bb1,UI,none⟩) n cb pa lo hi B _ _ ((xI.out.Xn (Y1 ‹_›)).imp (fun q hq=>QG hq YS)) fE (by omega) hlh (by omega) hn (by decide)).mono ?_;rintro e w5 ⟨rfl,fD,hb5,Ng⟩;have hS5:=XN ‹_› Z5 Z4 hb5 YS;dsimp only;refine hK.out _ _ hS5 (fun hHeld=>?_);clear hK K;refine QO (rs:=[6]) (by kernel_rfl) (by simp) ?_;refine QA (o:=⟨some 137,_,_,_,_,_⟩) rfl (fun K hK=>?_) ?_
              ·go_simp
               refine(Yl J4 J4 2 (some ⟨bb1,UI,none⟩) n cb hi P B _ _ ((xI.out.Xn (Y1 ‹_›)).imp (fun q hq=>QG hq YS)) fD (by omega) fB hn (by decide)).mono ?_;rintro e w6 ⟨rfl,rf,hb6,eG⟩;have fA:=XN ‹_› Z5 Z4 hb6 YS;dsimp only;refine hK.out _ _ fA (fun hHeld=>?_);clear hK K;refine QO (rs:=[9]) (by kernel_rfl) (by simp) ?_;refine QA (o:=⟨some 140,_,_,_,_,_⟩) rfl (fun K hK=>?_) ?_
               ·go_simp
                refine(X3 J4 J4 4 (some ⟨bb1,UI,none⟩) n cb P pb B _ _ ((xI.out.Xn (Y1 ‹_›)).imp (fun q hq=>QG hq YS)) rf fB hpb hn (by decide)).mono ?_;rintro e w7 ⟨rfl,hJ7,qU,pE⟩;have hS7:=XN ‹_› Z5 Z4 qU YS;obtain⟨sv7,kG,ed,QzN,hl7⟩:=hJ7;obtain⟨-,-,k7,-⟩:=kG.three;obtain⟨qJ,qX,qY,rfl⟩:=ed.form;dsimp only;refine hK.out _ _ hS7 (fun hHeld=>?_);clear hK K;refine QF 10 ⟨some 141,.nilCheck (.tmp 140),_,_,_,_⟩ ((.pointer (some ⟨J4,0,none⟩))) ?_;simp only[Act.put,QZ,QX,QY];refine QF 11 ⟨some 142,.fieldAddr 228 (.tmp 141) 2,_,_,_,_⟩ ((.pointer (some ⟨J4,2,none⟩))) ?_;simp only[Act.put,QZ,QX,QY];refine QO (rs:=[12,14]) (by kernel_rfl) (by simp) ?_;refine QA (o:=⟨some 143,.load 26 (.tmp 142),_,_,_,_⟩) rfl (fun K hK=>?_) ?_
                ·go_simp
                 refine hK.out _ _ (by assumption) (fun hHeld=>?_);clear hK K;refine QO (rs:=[14]) (by kernel_rfl) (by simp) ?_;refine QA (o:=⟨some 145,_,_,_,_,_⟩) rfl (fun K hK=>?_) ?_
                 ·go_simp
                  refine(Yd B2 B3 (some ⟨bb1,UI,none⟩) n cb pa _ (ps0 ‹_›) (oU ‹_›)).mono ?_;rintro e w8 ⟨J8,rfl,yM,hJ8,ZU⟩;have YH:V4.heap.size<=J8:=QL (AY ‹_›) yM;have hS8:=XN ‹_› Z5 Z4 ZU (AY ‹_›);have xZ:J4<J8:=QG kG.lt yM;have l8:=(Zh ZU (p:=⟨J4,2,none⟩) kG.lt).trans k7;have p8:=ed.sl.below ZU;have z8:=ZU.size;dsimp only;refine hK.out _ _ hS8 (fun hHeld=>?_);exact QAh
                 exact QI
                refine QA (o:=⟨some 145,_,_,_,_,_⟩) rfl (fun K hK=>?_) ?_
                ·go_simp
                 refine(Yd B2 B3 (some ⟨bb1,UI,none⟩) n cb pa _ (ps0 ‹_›) (oU ‹_›)).mono ?_;rintro e w8 ⟨J8,rfl,yM,hJ8,ZU⟩;have YH:V4.heap.size<=J8:=QL (AY ‹_›) yM;have hS8:=XN ‹_› Z5 Z4 ZU (AY ‹_›);have xZ:J4<J8:=QG kG.lt yM;have l8:=(Zh ZU (p:=⟨J4,2,none⟩) kG.lt).trans k7;have p8:=ed.sl.below ZU;have z8:=ZU.size;dsimp only;refine hK.out _ _ hS8 (fun hHeld=>?_);clear hK K;refine QO (rs:=[12,16]) (by kernel_rfl) (by simp) ?_;refine QA (o:=⟨some 143,.load 26 (.tmp 142),_,_,_,_⟩) rfl (fun K hK=>?_) ?_
                 ·go_simp
                  refine hK.out _ _ (by assumption) (fun hHeld=>?_);exact QAh
                 refine QA (o:=⟨some 147,_,_,_,_,_⟩) rfl (fun K hK=>?_) ?_
                 ·go_simp
                  refine(Yl J8 J8 0 (some ⟨bb1,UI,none⟩) n cb pa P B _ _ ((xI.out.Xn (Y1 ‹_›)).imp (fun q hq=>QG hq YH)) hJ8 (by omega) fB hn (by decide)).mono ?_;rintro e w9 ⟨rfl,hJ9,YN,zt⟩;have fu:=XN ‹_› Z5 Z4 YN YH;have l9:=(Zh YN (p:=⟨J4,2,none⟩) xZ).trans l8;have b9:=ZU.trans (YN.mono yM);dsimp only;refine hK.out _ _ fu (fun hHeld=>?_);clear hK K;refine QO (rs:=[12,19]) (by kernel_rfl) (by simp) ?_;refine QA (o:=⟨some 143,.load 26 (.tmp 142),_,_,_,_⟩) rfl (fun K hK=>?_) ?_
                  ·go_simp
                   refine hK.out _ _ (by assumption) (fun hHeld=>?_);exact QAi
                  refine QA (o:=⟨some 150,_,_,_,_,_⟩) rfl (fun K hK=>?_) ?_
                  ·go_simp
                   refine(JV J8 J8 2 (some ⟨bb1,UI,none⟩) n cb P lo hi B _ _ ((xI.out.Xn (Y1 ‹_›)).imp (fun q hq=>QG hq YH)) hJ9 fB hlh (by omega) hn (by decide)).mono ?_;rintro e Lx ⟨rfl,Er,Jj,eO⟩;have IU:=XN ‹_› Z5 Z4 Jj YH;have l10:=(Zh Jj (p:=⟨J4,2,none⟩) xZ).trans l9;have b10:=b9.trans (Jj.mono yM);dsimp only;refine hK.out _ _ IU (fun hHeld=>?_);clear hK K;refine QO (rs:=[12,22]) (by kernel_rfl) (by simp) ?_;refine QA (o:=⟨some 143,.load 26 (.tmp 142),_,_,_,_⟩) rfl (fun K hK=>?_) ?_
                   ·go_simp
                    refine hK.out _ _ (by assumption) (fun hHeld=>?_);exact QjP
                   refine QA (o:=⟨some 153,_,_,_,_,_⟩) rfl (fun K hK=>?_) ?_
                   ·go_simp
                    refine(X3 J8 J8 4 (some ⟨bb1,UI,none⟩) n cb hi pb B _ _ ((xI.out.Xn (Y1 ‹_›)).imp (fun q hq=>QG hq YH)) Er (by omega) hpb hn (by decide)).mono ?_;rintro e V8 ⟨rfl,Cn,U9,eH⟩;have Wp:=XN ‹_› Z5 Z4 U9 YH;have l11:=(Zh U9 (p:=⟨J4,2,none⟩) xZ).trans l10;have b11:=b10.trans (U9.mono yM);obtain⟨dQ,yX,Wm,MW,fQ⟩:=Cn;obtain⟨-,-,k11,-⟩:=yX.three;obtain⟨Yi,Yg,Yh,rfl⟩:=Wm.form;dsimp only;refine hK.out _ _ Wp (fun hHeld=>?_);clear hK K;refine QF 23 ⟨some 154,.nilCheck (.tmp 153),_,_,_,_⟩ ((.pointer (some ⟨J8,0,none⟩))) ?_;simp only[Act.put,QZ,QX,QY];refine QF 24 ⟨some 155,.fieldAddr 228 (.tmp 154) 2,_,_,_,_⟩ ((.pointer (some ⟨J8,2,none⟩))) ?_;simp only[Act.put,QZ,QX,QY];refine QO (rs:=[12,25]) (by kernel_rfl) (by simp) ?_;refine QA (o:=⟨some 143,.load 26 (.tmp 142),_,_,_,_⟩) rfl (fun K hK=>?_) ?_
                    ·go_simp
                     refine hK.out _ _ (by assumption) (fun hHeld=>?_);clear hK K;refine QO (rs:=[25]) (by kernel_rfl) (by simp) ?_;refine QA (o:=⟨some 156,.load 26 (.tmp 155),_,_,_,_⟩) rfl (fun K hK=>?_) ?_
                     ·go_simp
                      exact Qjc
                     exact QI
                    refine QA (o:=⟨some 156,.load 26 (.tmp 155),_,_,_,_⟩) rfl (fun K hK=>?_) ?_
                    ·go_simp
                     refine hK.out _ _ (by assumption) (fun hHeld=>?_);clear hK K;refine QO (rs:=[12]) (by kernel_rfl) (by simp) ?_;refine QA (o:=⟨some 143,.load 26 (.tmp 142),_,_,_,_⟩) rfl (fun K hK=>?_) ?_
                     ·go_simp
                      exact Qjc
                     exact QI
                    exact QI
                   exact QI
                  exact QI
                 exact QI
                exact QI
               exact QI
              exact QI
             exact QI
            exact QI
           case rest=>
            obtain⟨us,hvs,hls,hbx⟩:=hcut;obtain⟨va,vn,vc,rfl,nN,ve2,ve3,ve4,ve5⟩:=hvs;obtain rfl:vn=2:=by rw[<-nN,hls.len];rfl
            obtain⟨X,hX⟩:∃X,X=[(((([]++XV B pa lo)++XV B lo hi)++XV B hi P)++[11])++XV B P pb,(((([]++XV B pa P)++[11])++XV B P lo)++XV B lo hi)++XV B hi pb]:=⟨_,rfl⟩;rw[<-hX]at hls;have hXl:X.length=2:=by rw[hX];rfl
            have HX:=QQ hX;have Od:=QQ hXl;have HVE:=QQ nN;have ku:=HBR.out.below hbx;have rz:=QW hbr hbr.size hbx;have HB3:=QQ ku;obtain⟨V3,hV3⟩:∃V,V=wc:=⟨_,rfl⟩;subst hV3;clear hX hXl nN ku q0 q1 q2;go_wp2
            go_loopw [13,160] (fun bv i wr=>∃k:Nat,i=.int .i64 (k:Int)/\k<=2/\Sl wr bv (Ye BB (X.take k))/\∃m,wr=V3.drewN m) (fun _ i _=>2-(intOf i).toNat)
            case atStart=>exact⟨0,rfl,Qe _,HB3.out,0,rfl⟩
            case round=>
             obtain⟨k,rfl,hk,hbk,m,rfl⟩:=hrel;obtain⟨xb,oI,cb3,rfl,hxb⟩:=id hbk;have HBK:=QQ hbk;have HXB:=QQ hxb;clear hbk hxb;by_cases hlt:k<2
             ·obtain⟨b1,o1,rfl,hc1⟩:=ve4.at (k:=k) (by rw[HVE.out];exact hlt)
              exact Qkd
             ·obtain rfl:k=2:=by omega
              exact QuW
         ·have HPA:=QQ (show(UJ lo hi (full+j))=[[(P,none)]] by unfold UJ;rw[if_neg hm,<-HP.out])
          rw[decide_eq_false hm];go_upto_region 25 with fail
          go_cut [22] (fun v wx=>∃us,Vs wx v us/\Lists wx us [(([]++XV B pa P)++[11])++XV B P pb]/\Below V2.heap.size V2 wx)
          case first=>
           exact QkS
          case rest=>
           obtain⟨us,hvs,hls,hbx⟩:=hcut;obtain⟨va,vn,vc,rfl,nN,ve2,ve3,ve4,ve5⟩:=hvs;obtain rfl:vn=1:=by rw[<-nN,hls.len];rfl
           obtain⟨X,hX⟩:∃X,X=[(([]++XV B pa P)++[11])++XV B P pb]:=⟨_,rfl⟩;rw[<-hX]at hls;have hXl:X.length=1:=by rw[hX];rfl
           have HX:=QQ hX;have Od:=QQ hXl;have HVE:=QQ nN;have ku:=HBR.out.below hbx;have rz:=QW hbr hbr.size hbx;have HB3:=QQ ku;obtain⟨V3,hV3⟩:∃V,V=wc:=⟨_,rfl⟩;subst hV3;clear hX hXl nN ku q0 q1 q2;go_wp2
           go_loopw [13,160] (fun bv i wr=>∃k:Nat,i=.int .i64 (k:Int)/\k<=1/\Sl wr bv (Ye BB (X.take k))/\∃m,wr=V3.drewN m) (fun _ i _=>1-(intOf i).toNat)
           case atStart=>exact⟨0,rfl,Qe _,HB3.out,0,rfl⟩
           case round=>
            obtain⟨k,rfl,hk,hbk,m,rfl⟩:=hrel;obtain⟨xb,oI,cb3,rfl,hxb⟩:=id hbk;have HBK:=QQ hbk;have HXB:=QQ hxb;clear hbk hxb;by_cases hlt:k<1
            ·obtain⟨b1,o1,rfl,hc1⟩:=ve4.at (k:=k) (by rw[HVE.out];exact hlt)
             exact Qkd
            ·obtain rfl:k=1:=by omega
             exact QuW
        ·obtain rfl:j=fi+1-full:=by have:=HP.out;omega
         have i1:¬((P:Nat):Int)<=(fi:Int):=by omega
         go_wp2;go_ret2
         exact⟨.slice abj nbj cbj,rfl,by rw[nX.out.2.2 Nh htl,HB0.out];exact hbj,QW Ep (by omega) hbr⟩
      ·rw[decide_eq_false (Nat.not_lt.2 htl)]
       go_wp2;go_ret2
       exact⟨.slice ab nb cb2,rfl,by rw[nX.out.2.1 Nh htl,HB0.out];exact nU.out,Ep⟩
 ·rw[decide_eq_false (Nat.not_lt.2 Nh)]
  go_upto_region 13 with fail
  have hS0:(W.drew.cell? ⟨B3,0,none⟩=some (.slice (some ⟨bb1,UI,none⟩) n cb)/\W.drew.cell? ⟨B2,1,none⟩=some (.int .i64 (pa:Int))/\W.drew.cell? ⟨B3,1,none⟩=some (.int .i64 (pb:Int))/\Below W.heap.size W W.drew):=⟨q0,q1,q2,(Qx _ _).drew⟩
  go_region_law (first|(go_simp;go_at_call 149;((with_reducible refine(Yd B2 B3 (some ⟨bb1,UI,none⟩) n cb pa _ (ps0 ‹_›) (oU ‹_›)).mono ?_);rintro e w4 ⟨J4,rfl,Av,fE,hb4⟩;have YS:W.heap.size<=J4:=QL (AY ‹_›) Av;have bY:=XN ‹_› Z5 Z4 hb4 (AY ‹_›);have hT:=bY;obtain⟨r0,r1,r2,-⟩:=hT))|(go_simp;go_at_call 151;((with_reducible refine(X3 J4 J4 0 (some ⟨bb1,UI,none⟩) n cb pa pb B _ _ ((xI.out.Xn (Y1 ‹_›)).imp (fun q hq=>QG hq YS)) fE (by omega) hpb hn (by decide)).mono ?_);rintro e w5 ⟨rfl,fD,hb5,Ng⟩;have hS5:=XN ‹_› Z5 Z4 hb5 YS;have hT:=hS5;obtain⟨r0,r1,r2,-⟩:=hT;obtain⟨sv5,Yu,ho5,QzO,hl5⟩:=fD;obtain⟨-,-,k5,-⟩:=Yu.three;obtain⟨sa5,sn5,sc5,rfl⟩:=ho5.form)))
  all_goals
   have hbW:Below W.heap.size W w5:=Y1 ‹_›;have rG:=ho5.sl;go_wp2;go_ret2
   exact⟨.slice sa5 sn5 sc5,rfl,by rw[nX.out.1 Nh];exact rG,QW TY (by omega) hbW⟩
end Go.Proofs.YtmdcencmiopmmaaGreat
