/- joined, no condition of its own. -/
import Derived.Test.YtmdnepkekekncaaGreatJfJ28
set_option linter.unusedVariables false
set_option linter.unusedSimpArgs false
set_option maxRecDepth 100000
set_option maxHeartbeats 12000000
namespace Go.Proofs.YtmdnepkekekncaaGreat
open Go.RowKit
theorem Ints.QXq{w:World}{b o:Nat}{xs:List Int}{k:Nat}(h:Ints w (some ⟨b,o,none⟩) xs)(hk:k<xs.length):w.cell? ⟨b,o+k,none⟩=some (.int .i64 (ix xs k)):=by
 obtain⟨b',o',e,hc⟩:=h.at hk;cases e
 exact hc k hk
theorem yN(lo hi full k:Nat):Uw lo hi full (k+1)=Uw lo hi full k++Vt lo hi (full+k):=rfl
theorem YZ{base:Nat}{w1 w2:World}(hb:Below base w1 w2){p:Addr}(hp:p.block<base):w2.cell? p=w1.cell? p:=by
 unfold World.cell?;rw[hb.block _ hp]
theorem ps0{W w1:World}{a0 a1 a2:Addr}{u0 u1 u2:Value}(h:w1.cell? a0=some u0/\w1.cell? a1=some u1/\w1.cell? a2=some u2/\Below W.heap.size W w1):w1.cell? a0=some u0:=h.1
theorem ps1{W w1:World}{a0 a1 a2:Addr}{u0 u1 u2:Value}(h:w1.cell? a0=some u0/\w1.cell? a1=some u1/\w1.cell? a2=some u2/\Below W.heap.size W w1):w1.cell? a1=some u1:=h.2.1
theorem KF{W w1:World}{a0 a1 a2:Addr}{u0 u1 u2:Value}(h:w1.cell? a0=some u0/\w1.cell? a1=some u1/\w1.cell? a2=some u2/\Below W.heap.size W w1):Below W.heap.size W w1:=h.2.2.2
theorem D9{W w1:World}{a0 a1 a2:Addr}{u0 u1 u2:Value}(h:w1.cell? a0=some u0/\w1.cell? a1=some u1/\w1.cell? a2=some u2/\Below W.heap.size W w1):W.heap.size<=w1.heap.size:=h.2.2.2.size
theorem Yt{W w1 w2:World}{B2 B3 base:Nat}{u0 u1 u2:Value}(h:w1.cell? ⟨B3,0,none⟩=some u0/\w1.cell? ⟨B2,1,none⟩=some u1/\w1.cell? ⟨B3,1,none⟩=some u2/\Below W.heap.size W w1)(h2:B2<W.heap.size)(h3:B3<W.heap.size)(hb:Below base w1 w2)(hB:W.heap.size<=base):
  w2.cell? ⟨B3,0,none⟩=some u0/\w2.cell? ⟨B2,1,none⟩=some u1/\w2.cell? ⟨B3,1,none⟩=some u2/\Below W.heap.size W w2:=
 ⟨(YZ hb (p:=⟨B3,0,none⟩) (Zc h3 hB)).trans h.1,(YZ hb (p:=⟨B2,1,none⟩) (Zc h2 hB)).trans h.2.1,(YZ hb (p:=⟨B3,1,none⟩) (Zc h3 hB)).trans h.2.2.1,h.2.2.2.trans (hb.mono hB)⟩
structure Ui (A B:List Int) (n full x y lo hi fi la:Nat):Prop where
 n2:2<=n
 n120:n<=120
 MQ:R3 B n full
 all:Gw A B 0 n x y
 head:Gw A B 0 full lo hi
 tail:Gw A B full n fi la
def ae(V:List Int)(w:World)(e:Ending)(w':World):Prop:=∃v,e=.returned (.tuple #[v,.int .i64 0])/\Sl w' v V/\Below w.heap.size w w'
theorem LU(aa ba:Option Addr)(n ca cb pa pb full x y lo hi fi la:Nat)(A B:List Int)(w:World)(ha:Sl w (.slice aa n ca) A)(hb:Sl w (.slice ba n cb) B)(heA:KS A pa=0)(heB:KS B pb=0)(oD:pa<=n)(hpb:pb<=n)(H:Ui A B n full x y lo hi fi la):
  Calls Tryz.prog 66 #[.agg #[.slice aa n ca,.int .i64 (pa:Int)],.agg #[.slice ba n cb,.int .i64 (pb:Int)]] w (ae (Uo B pa pb x y full lo hi fi la) w):=by
 have HH:=Zy H;have hn2:=H.n2;have hn:=H.n120;have Jq:=H.all.yt;have hxy:=H.all.xy;have hlh:=H.head.xy;have hhf:=H.head.yt;have hfn:=H.MQ.le;have hff:=H.tail.fx;have hfl:=H.tail.xy;have hln:=H.tail.yt;have HA:=Zy ha;have HB:=Zy hb;have HEA:=Zy heA;have HEB:=Zy heB;have HAN:=Zy ha.get.1;have HBN:=Zy hb.get.1;obtain⟨ab1,ao1,rfl,-⟩:=ha.get.2.2.2.1.at (k:=0) (by rw[HAN.out];omega);obtain⟨bb1,Wu,rfl,-⟩:=hb.get.2.2.2.1.at (k:=0) (by rw[HBN.out];omega);have hB2:=(Za.new w #[.slice (some ⟨ab1,ao1,none⟩) n ca,.int .i64 (pa:Int)] 51).alloc (.cells #[.slice (some ⟨bb1,Wu,none⟩) n cb,.int .i64 (pb:Int)] 51);have hB3:=Za.new (w.alloc (.cells #[.slice (some ⟨ab1,ao1,none⟩) n ca,.int .i64 (pa:Int)] 51)) #[.slice (some ⟨bb1,Wu,none⟩) n cb,.int .i64 (pb:Int)] 51;rw[Zu]at hB3;have hacc:=Zo w (.cells #[.slice (some ⟨ab1,ao1,none⟩) n ca,.int .i64 (pa:Int)] 51) (.cells #[.slice (some ⟨bb1,Wu,none⟩) n cb,.int .i64 (pb:Int)] 51);have hsz:w.heap.size+2<=((w.alloc (.cells #[.slice (some ⟨ab1,ao1,none⟩) n ca,.int .i64 (pa:Int)] 51)).alloc (.cells #[.slice (some ⟨bb1,Wu,none⟩) n cb,.int .i64 (pb:Int)] 51)).heap.size:=QJ;clear ha hb heA heB H;go_enter Tryz.func66,Tryz.ntmps66
 go_upto_region 1 with fail
 have HA1:=Zy (HA.out.below hacc);have HB1:=Zy (HB.out.below hacc);clear HA HB;generalize((w.alloc (.cells #[.slice (some ⟨ab1,ao1,none⟩) n ca,.int .i64 (pa:Int)] 51)).alloc (.cells #[.slice (some ⟨bb1,Wu,none⟩) n cb,.int .i64 (pb:Int)] 51))=w1 at *;obtain⟨B2,QJA⟩:∃B2,w.heap.size=B2:=⟨_,rfl⟩;obtain⟨B3,QJu⟩:∃B3,w.heap.size+1=B3:=⟨_,rfl⟩;rw[QJA]at hB2;rw[QJu]at hB3;simp only[QJu];simp only[QJA];have hsz0:w.heap.size<=w1.heap.size:=QQ;clear QJA QJu hsz;obtain⟨c0,c1,-⟩:=hB2.two;obtain⟨d0,d1,-⟩:=hB3.two;go_wp2_with fail
 refine(Ak (some ⟨ab1,ao1,none⟩) n ca A pa _ HA1.out.get.2.2.2.1 HAN.out QQ).mono ?_;rintro e w2 ⟨rfl,hb2⟩;rw[HEA.out];have HA2:=Zy (HA1.out.below hb2);have HB2:=Zy (HB1.out.below hb2);have hB2':=hB2.below hb2 hB2.lt;have aZ:=hB3.below hb2 hB3.lt;have Z0:=ZE hacc QQ hb2;have hz2:=hb2.size;clear HA1 HB1 c0 c1 d0 d1 hb2 hB2 hB3;obtain⟨c0,c1,-⟩:=hB2'.two;obtain⟨d0,d1,-⟩:=aZ.two;go_wp2_with fail
 refine(Ak (some ⟨bb1,Wu,none⟩) n cb B pb _ HB2.out.get.2.2.2.1 HBN.out QQ).mono ?_;rintro e w3 ⟨rfl,hb3⟩;rw[HEB.out];have um:=Zy (HA2.out.below hb3);have HB3:=Zy (HB2.out.below hb3);have hB2:=hB2'.below hb3 hB2'.lt;have hB3:=aZ.below hb3 aZ.lt;have Ji:=ZE Z0 QQ hb3;have hz3:=hb3.size;clear HA2 HB2 c0 c1 d0 d1 hb3 hB2' aZ;obtain⟨c0,c1,-⟩:=hB2.two;obtain⟨d0,d1,-⟩:=hB3.two;go_wp2_with fail
 refine(xI (some ⟨ab1,ao1,none⟩) (some ⟨bb1,Wu,none⟩) n ca cb 0 n x y A B _ um.out HB3.out (Z4 _) (ZB _) hn HH.out.all).mono ?_;rintro e w4 ⟨rfl,nq,rfl⟩;have lJ:=below_drewN Ji nq;have HAW:=Zy (um.out.drewN nq);have PE:=Zy (HB3.out.drewN nq);have QQN:=hB2.drewN nq;have QQI:=hB3.drewN nq;have hzW:w1.heap.size<=(w3.drewN nq).heap.size:=Zf hz2 hz3;clear Ji um HB3 hB2 hB3 c0 c1 d0 d1 Z0;generalize w3.drewN nq=W at *;obtain⟨c0,q1,-⟩:=QQN.two;obtain⟨q0,q2,-⟩:=QQI.two;have Yj:=QQN.lt;have Yy:=QQI.lt;have uu:=Zy PE.out.lt;have HPV:=Zy (EX B pa pb x y full lo hi fi la);rcases Z9 x y with Tc|Tc
 ·rw[decide_eq_true Tc]
  go_upto_region 14 with fail
  go_cut [13] (fun v wx=>∃vb,v=vb/\Sl wx vb ((([]++YN B pa x)++YN B x y)++YN B y pb)/\Below W.heap.size W wx)
  case first=>
   have hS0:(W.drew.cell? ⟨B3,0,none⟩=some (.slice (some ⟨bb1,Wu,none⟩) n cb)/\W.drew.cell? ⟨B2,1,none⟩=some (.int .i64 (pa:Int))/\W.drew.cell? ⟨B3,1,none⟩=some (.int .i64 (pb:Int))/\Below W.heap.size W W.drew):=⟨q0,q1,q2,(ZH _ _).drew⟩
   go_region_law (first|(go_simp;go_at_call 101;((with_reducible refine(J9 B2 B3 (some ⟨bb1,Wu,none⟩) n cb pa _ (ps0 ‹_›) (ps1 ‹_›)).mono ?_);rintro e w4 ⟨J4,rfl,Ex,hJ4,hb4⟩;have Jt:W.heap.size<=J4:=Zf (D9 ‹_›) Ex;have oH:=Yt ‹_› Yj Yy hb4 (D9 ‹_›);have hT:=oH;obtain⟨r0,r1,r2,-⟩:=hT))|(go_simp;go_at_call 104;((with_reducible refine(Kg J4 J4 0 (some ⟨bb1,Wu,none⟩) n cb pa x y B _ _ ((uu.out.JX (KF ‹_›)).imp (fun q hq=>Zc hq Jt)) hJ4 QQ hxy Jq hn QZ).mono ?_);rintro e w5 ⟨rfl,hJ5,hb5,Ta⟩;have hS5:=Yt ‹_› Yj Yy hb5 Jt;have hT:=hS5;obtain⟨r0,r1,r2,-⟩:=hT))|(go_simp;go_at_call 103;((with_reducible refine(Jz J4 J4 2 (some ⟨bb1,Wu,none⟩) n cb y pb B _ _ ((uu.out.JX (KF ‹_›)).imp (fun q hq=>Zc hq Jt)) hJ5 QQ hpb hn QZ).mono ?_);rintro e w6 ⟨rfl,hJ6,hb6,hz6⟩;have hS6:=Yt ‹_› Yj Yy hb6 Jt;have hT:=hS6;obtain⟨r0,r1,r2,-⟩:=hT;obtain⟨rW,qU,ho6,QVS,hl6⟩:=hJ6;obtain⟨-,-,k6,-⟩:=qU.three;obtain⟨bG,bE,bF,rfl⟩:=ho6.form)))
   all_goals
    have hbW:Below W.heap.size W w6:=KF ‹_›;have hSl:=ho6.sl;go_wp2;go_meet;exact⟨_,rfl,hSl,hbW⟩
  case rest=>
   obtain⟨vb,rfl,RP,OA⟩:=hcut;obtain⟨ab,nb,cb2,rfl,-⟩:=id RP;obtain⟨QXu,hb0⟩:∃s,(([]++YN B pa x)++YN B x y)++YN B y pb=s:=⟨_,rfl⟩;have HB0:=Zy hb0;rw[hb0]at RP;have ni:=Zy RP;have QKj:=Zy (HAW.out.below OA);have MP:=Zy (PE.out.below OA);have Lt:=QQN.below OA Yj;have Ls:=QQI.below OA Yy;have Lp:=ZE lJ QQ OA;have hzV:=OA.size;clear RP q0 q1 q2 c0 uu QQN QQI HAW PE OA lJ hb0;have Yj:=Lt.lt;have Yy:=Ls.lt;obtain⟨V0,hV0⟩:∃V,V=wc:=⟨_,rfl⟩;subst hV0;go_wp2
   go_loopw [14] (fun i wr=>∃k:Nat,i=.int .i64 (k:Int)/\full<=k/\k<=n/\∃m,wr=V0.drewN m) (fun i _=>(intOf i).toNat)
   case atStart=>exact⟨n,rfl,hfn,ZB _,0,rfl⟩
   case round=>
    obtain⟨k,rfl,hk1,hk2,m,rfl⟩:=hrel;obtain⟨c0,q1,-⟩:=(Lt.drewN m).two;obtain⟨q0,q2,-⟩:=(Ls.drewN m).two;by_cases ib:full<k
    ·have i1:(0:Int)<(k:Int):=by omega
     have e1:=(MP.out.drewN m).get.2.2.2.1.QXq (k:=k-1) (by rw[HBN.out];omega);have i2:(k:Int)-1=((k-1:Nat):Int):=QQ;have i3:((k-1:Nat):Int)<(n:Int):=QQ;have he:(ix B (k-1)==32)=true:=by simpa using HH.out.MQ.blank (k-1) QQ QQ
     go_wp2;go_roundw
     case rel=>exact⟨k-1,rfl,QQ,QQ,_,rfl⟩
     case measure=>simp[intOf];omega
    ·obtain rfl:k=full:=by omega
     go_upto_region 16 with fail
     go_cut [86] (fun v wx=>v=.bool false/\wx=V0.drewN m)
     case first=>
      by_cases h0:0<k
      ·have i1:(0:Int)<(k:Int):=by omega
       have e1:=(MP.out.drewN m).get.2.2.2.1.QXq (k:=k-1) (by rw[HBN.out];omega);have i2:(k:Int)-1=((k-1:Nat):Int):=QQ;have i3:((k-1:Nat):Int)<(n:Int):=QQ;have he:(ix B (k-1)==32)=false:=by simpa using HH.out.MQ.last h0
       exact QGe
      ·have i1:¬(0:Int)<(k:Int):=by omega
       exact QGe
     case rest=>
      obtain⟨rfl,rfl⟩:=hcut;go_wp2_with fail
      refine(xI (some ⟨ab1,ao1,none⟩) (some ⟨bb1,Wu,none⟩) n ca cb 0 k lo hi A B _ (QKj.out.drewN m) (MP.out.drewN m) (Z4 _) hk2 hn HH.out.head).mono ?_;rintro e w4 ⟨rfl,nq1,rfl⟩;have ng:=Zy ((ni.out.drewN m).drewN nq1);have QZw:=below_drewN (below_drewN Lp m) nq1;have HAY:=Zy ((QKj.out.drewN m).drewN nq1);have HBY:=Zy ((MP.out.drewN m).drewN nq1);have QJB:=(Lt.drewN m).drewN nq1;have QJv:=(Ls.drewN m).drewN nq1;have hzY:W.heap.size<=((V0.drewN m).drewN nq1).heap.size:=hzV;clear QKj MP Lt Ls Yj Yy Lp ni c0 q0 q1 q2 hzV ib hk1;generalize((V0.drewN m).drewN nq1)=Y at *;obtain⟨c0,q1,-⟩:=QJB.two;obtain⟨q0,q2,-⟩:=QJv.two;go_wp2_with fail
      refine(xI (some ⟨ab1,ao1,none⟩) (some ⟨bb1,Wu,none⟩) n ca cb k n fi la A B _ HAY.out HBY.out hk2 (ZB _) hn HH.out.tail).mono ?_;rintro e w4 ⟨rfl,nq2,rfl⟩;have QXR:=Zy (ng.out.drewN nq2);have Lp:=below_drewN QZw nq2;have MP:=Zy (HBY.out.drewN nq2);have Lt:=QJB.drewN nq2;have Ls:=QJv.drewN nq2;have hzX:W.heap.size<=(Y.drewN nq2).heap.size:=hzY;clear HAY HBY QJB QJv ng c0 q0 q1 q2 hzY QZw;generalize(Y.drewN nq2)=V at *;have Yj:=Lt.lt;have Yy:=Ls.lt;obtain⟨c0,q1,-⟩:=Lt.two;obtain⟨q0,q2,-⟩:=Ls.two;obtain⟨full,hfull⟩:∃f,f=k:=⟨_,rfl⟩;subst hfull;rcases Z9 fi la with htl|htl
      ·rw[decide_eq_true htl]
       go_wp2
       go_loopw [13,21] (fun bv p wr=>∃P j:Nat,p=.int .i64 (P:Int)/\Hid (P=full+j)/\j<=fi+1-full/\P<=fi+1/\Sl wr bv (KX QXu ((Uw lo hi full j).map (fun p=>xq B pa p pb)))/\Below V.heap.size V wr) (fun _ p _=>fi+1-(intOf p).toNat)
       case atStart=>exact⟨full,0,rfl,Zy rfl,Z4 _,QQ,QXR.out,ZH _ _⟩
       case round=>
        obtain⟨P,j,rfl,HP,hj,Qvp,hbj,hbr⟩:=hrel;obtain⟨abj,nbj,cbj,rfl,-⟩:=id hbj;by_cases hlt:P<=fi
        ·obtain⟨BB,hBB⟩:∃BB,KX QXu ((Uw lo hi full j).map (fun p=>xq B pa p pb))=BB:=⟨_,rfl⟩
         have HBB:=Zy hBB;rw[hBB]at hbj;have HBR:=Zy hbj;have hPn:P<=n:=QQ;have hPf:P<=fi:=QQ;have i1:((P:Nat):Int)<=(fi:Int):=QQ;have QQM:=Lt.below hbr Yj;have QQH:=Ls.below hbr Yy;have uu:=Zy (MP.out.below hbr).lt;clear hBB hbj q0 q1 q2 c0;obtain⟨-,q1,-⟩:=QQM.two;obtain⟨q0,q2,-⟩:=QQH.two;have QkB:=Yj;have QkA:=Yy;have Yj:=QQM.lt;have Yy:=QQH.lt;obtain⟨V2,hV2⟩:∃V,V=wr:=⟨_,rfl⟩;subst hV2;by_cases hm:lo<hi
         ·have HPA:=Zy (show(Vt lo hi (full+j))=[[(lo,some hi),(P,none)],[(P,none),(lo,some hi)]] by unfold Vt;rw[if_pos hm,<-HP.out])
          rw[decide_eq_true hm];go_upto_region 25 with fail
          go_cut [22] (fun v wx=>∃us,Vs wx v us/\Lists wx us [(([]++YN B pa P)++[11])++YN B P pb]/\Below V2.heap.size V2 wx)
          case first=>
           exact QGz
          case rest=>
           obtain⟨us0,Qzc,Qzw,hbx0⟩:=hcut;obtain⟨va0,vn0,vc0,rfl,-⟩:=Qzc;have Qy9:=Zy (HBR.out.below hbx0);have QVN:=ZE hbr hbr.size hbx0;have QV6:=QQM.below hbx0 Yj;have QV5:=QQH.below hbx0 Yy;have QyF:=Zy ((MP.out.below QVN).lt);clear Qzw q0 q1 q2 HBR uu hbx0 hbr QQM QQH;have HBR:=Qy9;have hbr:=QVN;have uu:=QyF;obtain⟨-,q1,-⟩:=QV6.two;obtain⟨q0,q2,-⟩:=QV5.two;have Yj:=QV6.lt;have Yy:=QV5.lt;obtain⟨V4,hV4⟩:∃V,V=wc:=⟨_,rfl⟩;subst hV4;go_upto_region 27 with fail
           go_cut [22] (fun v wx=>∃us,Vs wx v us/\Lists wx us [(((([]++YN B pa lo)++YN B lo hi)++YN B hi P)++[11])++YN B P pb,(((([]++YN B pa P)++[11])++YN B P lo)++YN B lo hi)++YN B hi pb]/\Below V4.heap.size V4 wx)
           case first=>
            refine wp_region_held_drew (S:=(fun w'=>w'.cell? ⟨B3,0,none⟩=some (.slice (some ⟨bb1,Wu,none⟩) n cb)/\w'.cell? ⟨B2,1,none⟩=some (.int .i64 (pa:Int))/\w'.cell? ⟨B3,1,none⟩=some (.int .i64 (pb:Int))/\Below V4.heap.size V4 w')) QX ⟨q0,q1,q2,(ZH _ _).drew⟩ ?_;intro hSd;refine Ze 0 ⟨some 131,.move (.tmp 9),_,_,_,_⟩ ((.func (.func 101) #[] #[.pointer (some ⟨B3,0,none⟩),.pointer (some ⟨B2,0,none⟩)])) ?_;simp only[Act.put,Zj,Zk,Zv];refine Ze 2 ⟨some 133,.move (.tmp 15),_,_,_,_⟩ ((.int .i64 (lo:Int))) ?_;simp only[Act.put,Zj,Zk,Zv];refine Ze 3 ⟨some 134,.move (.tmp 16),_,_,_,_⟩ ((.int .i64 (hi:Int))) ?_;simp only[Act.put,Zj,Zk,Zv];refine Ze 5 ⟨some 136,.move (.tmp 21),_,_,_,_⟩ ((.int .i64 (P:Int))) ?_;simp only[Act.put,Zj,Zk,Zv];refine Ze 7 ⟨some 138,.fieldAddr 51 (.tmp 3) 1,_,_,_,_⟩ ((.pointer (some ⟨B3,1,none⟩))) ?_;simp only[Act.put,Zj,Zk,Zv];refine Ze 8 ⟨some 139,.load 3 (.tmp 138),_,_,_,_⟩ ((.int .i64 (pb:Int))) ?_;simp only[Act.put,Zj,Zk,Zv];refine Ze 13 ⟨some 144,.move (.tmp 9),_,_,_,_⟩ ((.func (.func 101) #[] #[.pointer (some ⟨B3,0,none⟩),.pointer (some ⟨B2,0,none⟩)])) ?_;simp only[Act.put,Zj,Zk,Zv];refine Ze 15 ⟨some 146,.move (.tmp 21),_,_,_,_⟩ ((.int .i64 (P:Int))) ?_;simp only[Act.put,Zj,Zk,Zv];refine Ze 17 ⟨some 148,.move (.tmp 15),_,_,_,_⟩ ((.int .i64 (lo:Int))) ?_;simp only[Act.put,Zj,Zk,Zv];refine Ze 18 ⟨some 149,.move (.tmp 16),_,_,_,_⟩ ((.int .i64 (hi:Int))) ?_;simp only[Act.put,Zj,Zk,Zv];refine Ze 20 ⟨some 151,.fieldAddr 51 (.tmp 3) 1,_,_,_,_⟩ ((.pointer (some ⟨B3,1,none⟩))) ?_;simp only[Act.put,Zj,Zk,Zv];refine Ze 21 ⟨some 152,.load 3 (.tmp 151),_,_,_,_⟩ ((.int .i64 (pb:Int))) ?_;simp only[Act.put,Zj,Zk,Zv];refine Zn (rs:=[1]) QX QJ ?_;refine ZT (o:=⟨some 132,_,_,_,_,_⟩) rfl (fun K hK=>?_) ?_
            ·go_simp
             refine(J9 B2 B3 (some ⟨bb1,Wu,none⟩) n cb pa _ (ps0 ‹_›) (ps1 ‹_›)).mono ?_;rintro e w4 ⟨J4,rfl,Ex,hJ4,hb4⟩;have Jt:V4.heap.size<=J4:=Zf (D9 ‹_›) Ex;have oH:=Yt ‹_› Yj Yy hb4 (D9 ‹_›);dsimp only;refine hK.out _ _ oH (fun hHeld=>?_);clear hK K;refine Zn (rs:=[4]) QX QJ ?_;refine ZT (o:=⟨some 135,_,_,_,_,_⟩) rfl (fun K hK=>?_) ?_
             ·go_simp
              refine(Kg J4 J4 0 (some ⟨bb1,Wu,none⟩) n cb pa lo hi B _ _ ((uu.out.JX (KF ‹_›)).imp (fun q hq=>Zc hq Jt)) hJ4 QQ hlh QQ hn QZ).mono ?_;rintro e w5 ⟨rfl,hJ5,hb5,Ta⟩;have hS5:=Yt ‹_› Yj Yy hb5 Jt;dsimp only;refine hK.out _ _ hS5 (fun hHeld=>?_);clear hK K;refine Zn (rs:=[6]) QX QJ ?_;refine ZT (o:=⟨some 137,_,_,_,_,_⟩) rfl (fun K hK=>?_) ?_
              ·go_simp
               refine(Kq J4 J4 2 (some ⟨bb1,Wu,none⟩) n cb hi P B _ _ ((uu.out.JX (KF ‹_›)).imp (fun q hq=>Zc hq Jt)) hJ5 QQ hPn hn QZ).mono ?_;rintro e w6 ⟨rfl,hJ6,hb6,hz6⟩;have hS6:=Yt ‹_› Yj Yy hb6 Jt;dsimp only;refine hK.out _ _ hS6 (fun hHeld=>?_);clear hK K;refine Zn (rs:=[9]) QX QJ ?_;refine ZT (o:=⟨some 140,_,_,_,_,_⟩) rfl (fun K hK=>?_) ?_
               ·go_simp
                refine(Jz J4 J4 4 (some ⟨bb1,Wu,none⟩) n cb P pb B _ _ ((uu.out.JX (KF ‹_›)).imp (fun q hq=>Zc hq Jt)) hJ6 hPn hpb hn QZ).mono ?_;rintro e w7 ⟨rfl,hJ7,WC,hz7⟩;have hS7:=Yt ‹_› Yj Yy WC Jt;obtain⟨sv7,Bc,Te,Qvb,hl7⟩:=hJ7;obtain⟨-,-,k7,-⟩:=Bc.three;obtain⟨yz,yU,yV,rfl⟩:=Te.form;dsimp only;refine hK.out _ _ hS7 (fun hHeld=>?_);clear hK K;refine Ze 10 ⟨some 141,.nilCheck (.tmp 140),_,_,_,_⟩ ((.pointer (some ⟨J4,0,none⟩))) ?_;simp only[Act.put,Zj,Zk,Zv];refine Ze 11 ⟨some 142,.fieldAddr 175 (.tmp 141) 2,_,_,_,_⟩ ((.pointer (some ⟨J4,2,none⟩))) ?_;simp only[Act.put,Zj,Zk,Zv];refine Zn (rs:=[12,14]) QX QJ ?_;refine ZT (o:=⟨some 143,.load 22 (.tmp 142),_,_,_,_⟩) rfl (fun K hK=>?_) ?_
                ·go_simp
                 refine hK.out _ _ QI (fun hHeld=>?_);clear hK K;refine Zn (rs:=[14]) QX QJ ?_;refine ZT (o:=⟨some 145,_,_,_,_,_⟩) rfl (fun K hK=>?_) ?_
                 ·go_simp
                  refine(J9 B2 B3 (some ⟨bb1,Wu,none⟩) n cb pa _ (ps0 ‹_›) (ps1 ‹_›)).mono ?_;rintro e w8 ⟨J8,rfl,vC,hJ8,XH⟩;have Jl:V4.heap.size<=J8:=Zf (D9 ‹_›) vC;have hS8:=Yt ‹_› Yj Yy XH (D9 ‹_›);have kv:J4<J8:=Zc Bc.lt vC;have l8:=(YZ XH (p:=⟨J4,2,none⟩) Bc.lt).trans k7;have p8:=Te.sl.below XH;have z8:=XH.size;dsimp only;refine hK.out _ _ hS8 (fun hHeld=>?_);exact QLN
                 exact Zh
                refine ZT (o:=⟨some 145,_,_,_,_,_⟩) rfl (fun K hK=>?_) ?_
                ·go_simp
                 refine(J9 B2 B3 (some ⟨bb1,Wu,none⟩) n cb pa _ (ps0 ‹_›) (ps1 ‹_›)).mono ?_;rintro e w8 ⟨J8,rfl,vC,hJ8,XH⟩;have Jl:V4.heap.size<=J8:=Zf (D9 ‹_›) vC;have hS8:=Yt ‹_› Yj Yy XH (D9 ‹_›);have kv:J4<J8:=Zc Bc.lt vC;have l8:=(YZ XH (p:=⟨J4,2,none⟩) Bc.lt).trans k7;have p8:=Te.sl.below XH;have z8:=XH.size;dsimp only;refine hK.out _ _ hS8 (fun hHeld=>?_);clear hK K;refine Zn (rs:=[12,16]) QX QJ ?_;refine ZT (o:=⟨some 143,.load 22 (.tmp 142),_,_,_,_⟩) rfl (fun K hK=>?_) ?_
                 ·go_simp
                  refine hK.out _ _ QI (fun hHeld=>?_);exact QLN
                 refine ZT (o:=⟨some 147,_,_,_,_,_⟩) rfl (fun K hK=>?_) ?_
                 ·go_simp
                  refine(Kq J8 J8 0 (some ⟨bb1,Wu,none⟩) n cb pa P B _ _ ((uu.out.JX (KF ‹_›)).imp (fun q hq=>Zc hq Jl)) hJ8 QQ hPn hn QZ).mono ?_;rintro e w9 ⟨rfl,hJ9,Jp,kz⟩;have hS9:=Yt ‹_› Yj Yy Jp Jl;have l9:=(YZ Jp (p:=⟨J4,2,none⟩) kv).trans l8;have b9:=XH.trans (Jp.mono vC);dsimp only;refine hK.out _ _ hS9 (fun hHeld=>?_);clear hK K;refine Zn (rs:=[12,19]) QX QJ ?_;refine ZT (o:=⟨some 143,.load 22 (.tmp 142),_,_,_,_⟩) rfl (fun K hK=>?_) ?_
                  ·go_simp
                   refine hK.out _ _ QI (fun hHeld=>?_);exact QLO
                  refine ZT (o:=⟨some 150,_,_,_,_,_⟩) rfl (fun K hK=>?_) ?_
                  ·go_simp
                   refine(Kg J8 J8 2 (some ⟨bb1,Wu,none⟩) n cb P lo hi B _ _ ((uu.out.JX (KF ‹_›)).imp (fun q hq=>Zc hq Jl)) hJ9 hPn hlh QQ hn QZ).mono ?_;rintro e Hl ⟨rfl,Lr,KI,QQY⟩;have OC:=Yt ‹_› Yj Yy KI Jl;have l10:=(YZ KI (p:=⟨J4,2,none⟩) kv).trans l9;have b10:=b9.trans (KI.mono vC);dsimp only;refine hK.out _ _ OC (fun hHeld=>?_);clear hK K;refine Zn (rs:=[12,22]) QX QJ ?_;refine ZT (o:=⟨some 143,.load 22 (.tmp 142),_,_,_,_⟩) rfl (fun K hK=>?_) ?_
                   ·go_simp
                    refine hK.out _ _ QI (fun hHeld=>?_);exact QFq
                   refine ZT (o:=⟨some 153,_,_,_,_,_⟩) rfl (fun K hK=>?_) ?_
                   ·go_simp
                    refine(Jz J8 J8 4 (some ⟨bb1,Wu,none⟩) n cb hi pb B _ _ ((uu.out.JX (KF ‹_›)).imp (fun q hq=>Zc hq Jl)) Lr QQ hpb hn QZ).mono ?_;rintro e qR ⟨rfl,Gb,Wq,QQX⟩;have xg:=Yt ‹_› Yj Yy Wq Jl;have l11:=(YZ Wq (p:=⟨J4,2,none⟩) kv).trans l10;have b11:=b10.trans (Wq.mono vC);obtain⟨rz,uP,xR,RS,QQV⟩:=Gb;obtain⟨-,-,k11,-⟩:=uP.three;obtain⟨KW,KU,KV,rfl⟩:=xR.form;dsimp only;refine hK.out _ _ xg (fun hHeld=>?_);clear hK K;refine Ze 23 ⟨some 154,.nilCheck (.tmp 153),_,_,_,_⟩ ((.pointer (some ⟨J8,0,none⟩))) ?_;simp only[Act.put,Zj,Zk,Zv];refine Ze 24 ⟨some 155,.fieldAddr 175 (.tmp 154) 2,_,_,_,_⟩ ((.pointer (some ⟨J8,2,none⟩))) ?_;simp only[Act.put,Zj,Zk,Zv];refine Zn (rs:=[12,25]) QX QJ ?_;refine ZT (o:=⟨some 143,.load 22 (.tmp 142),_,_,_,_⟩) rfl (fun K hK=>?_) ?_
                    ·go_simp
                     refine hK.out _ _ QI (fun hHeld=>?_);clear hK K;exact QFF
                    refine ZT (o:=⟨some 156,.load 22 (.tmp 155),_,_,_,_⟩) rfl (fun K hK=>?_) ?_
                    ·go_simp
                     refine hK.out _ _ QI (fun hHeld=>?_);clear hK K;refine Zn (rs:=[12]) QX QJ ?_;refine ZT (o:=⟨some 143,.load 22 (.tmp 142),_,_,_,_⟩) rfl (fun K hK=>?_) ?_
                     ·go_simp
                      exact QFu
                     exact Zh
                    exact Zh
                   exact Zh
                  exact Zh
                 exact Zh
                exact Zh
               exact Zh
              exact Zh
             exact Zh
            exact Zh
           case rest=>
            obtain⟨us,hvs,hls,hbx⟩:=hcut;obtain⟨va,vn,vc,rfl,ve1,ve2,ve3,ve4,ve5⟩:=hvs;obtain rfl:vn=2:=by rw[<-ve1,hls.len];rfl
            obtain⟨X,hX⟩:∃X,X=[(((([]++YN B pa lo)++YN B lo hi)++YN B hi P)++[11])++YN B P pb,(((([]++YN B pa P)++[11])++YN B P lo)++YN B lo hi)++YN B hi pb]:=⟨_,rfl⟩;rw[<-hX]at hls;have hXl:X.length=2:=by rw[hX];rfl
            have HX:=Zy hX;have bX:=Zy hXl;have HVE:=Zy ve1;have BP:=HBR.out.below hbx;have QY1:=ZE hbr hbr.size hbx;have HB3:=Zy BP;obtain⟨V3,hV3⟩:∃V,V=wc:=⟨_,rfl⟩;subst hV3;clear hX hXl ve1 BP q0 q1 q2;go_wp2
            go_loopw [13,160] (fun bv i wr=>∃k:Nat,i=.int .i64 (k:Int)/\k<=2/\Sl wr bv (KX BB (X.take k))/\∃m,wr=V3.drewN m) (fun _ i _=>2-(intOf i).toNat)
            case atStart=>exact⟨0,rfl,Z4 _,HB3.out,0,rfl⟩
            case round=>
             obtain⟨k,rfl,hk,hbk,m,rfl⟩:=hrel;obtain⟨xb,nb3,cb3,rfl,hxb⟩:=id hbk;have HBK:=Zy hbk;have HXB:=Zy hxb;clear hbk hxb;by_cases hlt:k<2
             ·obtain⟨b1,o1,rfl,hc1⟩:=ve4.at (k:=k) QEU
              exact QGv
             ·obtain rfl:k=2:=by omega
              exact QGn
         ·have HPA:=Zy (show(Vt lo hi (full+j))=[[(P,none)]] by unfold Vt;rw[if_neg hm,<-HP.out])
          rw[decide_eq_false hm];go_upto_region 25 with fail
          go_cut [22] (fun v wx=>∃us,Vs wx v us/\Lists wx us [(([]++YN B pa P)++[11])++YN B P pb]/\Below V2.heap.size V2 wx)
          case first=>
           exact QGz
          case rest=>
           obtain⟨us,hvs,hls,hbx⟩:=hcut;obtain⟨va,vn,vc,rfl,ve1,ve2,ve3,ve4,ve5⟩:=hvs;obtain rfl:vn=1:=by rw[<-ve1,hls.len];rfl
           obtain⟨X,hX⟩:∃X,X=[(([]++YN B pa P)++[11])++YN B P pb]:=⟨_,rfl⟩;rw[<-hX]at hls;have hXl:X.length=1:=by rw[hX];rfl
           have HX:=Zy hX;have bX:=Zy hXl;have HVE:=Zy ve1;have BP:=HBR.out.below hbx;have QY1:=ZE hbr hbr.size hbx;have HB3:=Zy BP;obtain⟨V3,hV3⟩:∃V,V=wc:=⟨_,rfl⟩;subst hV3;clear hX hXl ve1 BP q0 q1 q2;go_wp2
           go_loopw [13,160] (fun bv i wr=>∃k:Nat,i=.int .i64 (k:Int)/\k<=1/\Sl wr bv (KX BB (X.take k))/\∃m,wr=V3.drewN m) (fun _ i _=>1-(intOf i).toNat)
           case atStart=>exact⟨0,rfl,Z4 _,HB3.out,0,rfl⟩
           case round=>
            obtain⟨k,rfl,hk,hbk,m,rfl⟩:=hrel;obtain⟨xb,nb3,cb3,rfl,hxb⟩:=id hbk;have HBK:=Zy hbk;have HXB:=Zy hxb;clear hbk hxb;by_cases hlt:k<1
            ·obtain⟨b1,o1,rfl,hc1⟩:=ve4.at (k:=k) QEU
             exact QGv
            ·obtain rfl:k=1:=by omega
             exact QGn
        ·obtain rfl:j=fi+1-full:=by have:=HP.out;omega
         have i1:¬((P:Nat):Int)<=(fi:Int):=QQ;go_wp2;go_ret2
         exact⟨.slice abj nbj cbj,rfl,by rw[HPV.out.2.2 Tc htl,HB0.out];exact hbj,ZE Lp QQ hbr⟩
      ·rw[decide_eq_false (Nat.not_lt.2 htl)]
       go_wp2;go_ret2
       exact⟨.slice ab nb cb2,rfl,by rw[HPV.out.2.1 Tc htl,HB0.out];exact QXR.out,Lp⟩
 ·rw[decide_eq_false (Nat.not_lt.2 Tc)]
  go_upto_region 13 with fail
  have hS0:(W.drew.cell? ⟨B3,0,none⟩=some (.slice (some ⟨bb1,Wu,none⟩) n cb)/\W.drew.cell? ⟨B2,1,none⟩=some (.int .i64 (pa:Int))/\W.drew.cell? ⟨B3,1,none⟩=some (.int .i64 (pb:Int))/\Below W.heap.size W W.drew):=⟨q0,q1,q2,(ZH _ _).drew⟩
  go_region_law (first|(go_simp;go_at_call 101;((with_reducible refine(J9 B2 B3 (some ⟨bb1,Wu,none⟩) n cb pa _ (ps0 ‹_›) (ps1 ‹_›)).mono ?_);rintro e w4 ⟨J4,rfl,Ex,hJ4,hb4⟩;have Jt:W.heap.size<=J4:=Zf (D9 ‹_›) Ex;have oH:=Yt ‹_› Yj Yy hb4 (D9 ‹_›);have hT:=oH;obtain⟨r0,r1,r2,-⟩:=hT))|(go_simp;go_at_call 103;((with_reducible refine(Jz J4 J4 0 (some ⟨bb1,Wu,none⟩) n cb pa pb B _ _ ((uu.out.JX (KF ‹_›)).imp (fun q hq=>Zc hq Jt)) hJ4 QQ hpb hn QZ).mono ?_);rintro e w5 ⟨rfl,hJ5,hb5,Ta⟩;have hS5:=Yt ‹_› Yj Yy hb5 Jt;have hT:=hS5;obtain⟨r0,r1,r2,-⟩:=hT;obtain⟨sv5,JR,ho5,Qvc,hl5⟩:=hJ5;obtain⟨-,-,k5,-⟩:=JR.three;obtain⟨sa5,sn5,sc5,rfl⟩:=ho5.form)))
  all_goals
   have hbW:Below W.heap.size W w5:=KF ‹_›;have hSl:=ho5.sl;go_wp2;go_ret2
   exact⟨.slice sa5 sn5 sc5,rfl,by rw[HPV.out.1 Tc];exact hSl,ZE lJ QQ hbW⟩
end Go.Proofs.YtmdnepkekekncaaGreat
