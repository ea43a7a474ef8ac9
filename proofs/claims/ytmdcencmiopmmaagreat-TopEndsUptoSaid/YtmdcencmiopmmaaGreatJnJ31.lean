/- joined, no condition of its own. -/
import Derived.Test.YtmdcencmiopmmaaGreatJnT
import Derived.Test.YtmdcencmiopmmaaGreatJnJ19
import Derived.Test.YtmdcencmiopmmaaGreatJnJ30
set_option linter.unusedVariables false
set_option linter.unusedSimpArgs false
set_option maxRecDepth 100000
set_option maxHeartbeats 12000000
namespace Go.Proofs.YtmdcencmiopmmaaGreat
open Go.RowKit
theorem Ints.tO{w:World}{b o:Nat}{xs:List Int}{k:Nat}(h:Ints w (some ⟨b,o,none⟩) xs)(hk:k<xs.length):w.cell? ⟨b,o+k,none⟩=some (.int .i64 (ix xs k)):=by
 obtain⟨b',o',e,hc⟩:=h.at hk;cases e
 exact hc k hk
theorem xR(lo hi full k:Nat):U3 lo hi full (k+1)=U3 lo hi full k++VO lo hi (full+k):=rfl
theorem X9{base:Nat}{w1 w2:World}(hb:Below base w1 w2){p:Addr}(hp:p.block<base):w2.cell? p=w1.cell? p:=by
 unfold World.cell?;rw[hb.block _ hp]
theorem ps0{W w1:World}{a0 a1 a2:Addr}{u0 u1 u2:Value}(h:w1.cell? a0=some u0/\w1.cell? a1=some u1/\w1.cell? a2=some u2/\Below W.heap.size W w1):w1.cell? a0=some u0:=h.1
theorem ps1{W w1:World}{a0 a1 a2:Addr}{u0 u1 u2:Value}(h:w1.cell? a0=some u0/\w1.cell? a1=some u1/\w1.cell? a2=some u2/\Below W.heap.size W w1):w1.cell? a1=some u1:=h.2.1
theorem Kv{W w1:World}{a0 a1 a2:Addr}{u0 u1 u2:Value}(h:w1.cell? a0=some u0/\w1.cell? a1=some u1/\w1.cell? a2=some u2/\Below W.heap.size W w1):Below W.heap.size W w1:=h.2.2.2
theorem Cb{W w1:World}{a0 a1 a2:Addr}{u0 u1 u2:Value}(h:w1.cell? a0=some u0/\w1.cell? a1=some u1/\w1.cell? a2=some u2/\Below W.heap.size W w1):W.heap.size<=w1.heap.size:=h.2.2.2.size
theorem Ym{W w1 w2:World}{B2 B3 base:Nat}{u0 u1 u2:Value}(h:w1.cell? ⟨B3,0,none⟩=some u0/\w1.cell? ⟨B2,1,none⟩=some u1/\w1.cell? ⟨B3,1,none⟩=some u2/\Below W.heap.size W w1)(h2:B2<W.heap.size)(h3:B3<W.heap.size)(hb:Below base w1 w2)(hB:W.heap.size<=base):
  w2.cell? ⟨B3,0,none⟩=some u0/\w2.cell? ⟨B2,1,none⟩=some u1/\w2.cell? ⟨B3,1,none⟩=some u2/\Below W.heap.size W w2:=
 ⟨(X9 hb (p:=⟨B3,0,none⟩) (Zc h3 hB)).trans h.1,(X9 hb (p:=⟨B2,1,none⟩) (Zc h2 hB)).trans h.2.1,(X9 hb (p:=⟨B3,1,none⟩) (Zc h3 hB)).trans h.2.2.1,h.2.2.2.trans (hb.mono hB)⟩
structure Uf (A B:List Int) (n full x y lo hi fi la:Nat):Prop where
 n2:2<=n
 n120:n<=120
 Ik:O1 B n full
 all:FE A B 0 n x y
 head:FE A B 0 full lo hi
 tail:FE A B full n fi la
def Sq(V:List Int)(w:World)(e:Ending)(w':World):Prop:=∃v,e=.returned (.tuple #[v,.int .i64 0])/\Sl w' v V/\Below w.heap.size w w'
theorem Hz(aa ba:Option Addr)(n ca cb pa pb full x y lo hi fi la:Nat)(A B:List Int)(w:World)(ha:Sl w (.slice aa n ca) A)(hb:Sl w (.slice ba n cb) B)(heA:J9 A pa=0)(heB:J9 B pb=0)(gF:pa<=n)(hpb:pb<=n)(H:Uf A B n full x y lo hi fi la):
  Calls Tryz.prog 92 #[.agg #[.slice aa n ca,.int .i64 (pa:Int)],.agg #[.slice ba n cb,.int .i64 (pb:Int)]] w (Sq (Um B pa pb x y full lo hi fi la) w):=by
 have HH:=Zy H;have hn2:=H.n2;have hn:=H.n120;have JK:=H.all.yt;have hxy:=H.all.xy;have hlh:=H.head.xy;have hhf:=H.head.yt;have hfn:=H.Ik.le;have hff:=H.tail.fx;have hfl:=H.tail.xy;have hln:=H.tail.yt;have HA:=Zy ha;have HB:=Zy hb;have HEA:=Zy heA;have HEB:=Zy heB;have HAN:=Zy ha.get.1;have HBN:=Zy hb.get.1;obtain⟨pU,pX,rfl,-⟩:=ha.get.2.2.2.1.at (k:=0) (by rw[HAN.out];omega);obtain⟨bb1,V6,rfl,-⟩:=hb.get.2.2.2.1.at (k:=0) (by rw[HBN.out];omega);have hB2:=(Za.new w #[.slice (some ⟨pU,pX,none⟩) n ca,.int .i64 (pa:Int)] 39).alloc (.cells #[.slice (some ⟨bb1,V6,none⟩) n cb,.int .i64 (pb:Int)] 39);have hB3:=Za.new (w.alloc (.cells #[.slice (some ⟨pU,pX,none⟩) n ca,.int .i64 (pa:Int)] 39)) #[.slice (some ⟨bb1,V6,none⟩) n cb,.int .i64 (pb:Int)] 39;rw[Zv]at hB3;have hacc:=Zn w (.cells #[.slice (some ⟨pU,pX,none⟩) n ca,.int .i64 (pa:Int)] 39) (.cells #[.slice (some ⟨bb1,V6,none⟩) n cb,.int .i64 (pb:Int)] 39);have hsz:w.heap.size+2<=((w.alloc (.cells #[.slice (some ⟨pU,pX,none⟩) n ca,.int .i64 (pa:Int)] 39)).alloc (.cells #[.slice (some ⟨bb1,V6,none⟩) n cb,.int .i64 (pb:Int)] 39)).heap.size:=QJ;clear ha hb heA heB H;go_enter Tryz.func92,Tryz.ntmps92
 go_upto_region 1 with fail
 have HA1:=Zy (HA.out.below hacc);have HB1:=Zy (HB.out.below hacc);clear HA HB;generalize((w.alloc (.cells #[.slice (some ⟨pU,pX,none⟩) n ca,.int .i64 (pa:Int)] 39)).alloc (.cells #[.slice (some ⟨bb1,V6,none⟩) n cb,.int .i64 (pb:Int)] 39))=w1 at *;obtain⟨B2,QZ5⟩:∃B2,w.heap.size=B2:=⟨_,rfl⟩;obtain⟨B3,QZ3⟩:∃B3,w.heap.size+1=B3:=⟨_,rfl⟩;rw[QZ5]at hB2;rw[QZ3]at hB3;simp only[QZ3];simp only[QZ5];have hsz0:w.heap.size<=w1.heap.size:=QQ;clear QZ5 QZ3 hsz;obtain⟨c0,c1,-⟩:=hB2.two;obtain⟨d0,d1,-⟩:=hB3.two;go_wp2_with fail
 refine(ze (some ⟨pU,pX,none⟩) n ca A pa _ HA1.out.get.2.2.2.1 HAN.out QQ).mono ?_;rintro e w2 ⟨rfl,hb2⟩;rw[HEA.out];have HA2:=Zy (HA1.out.below hb2);have HB2:=Zy (HB1.out.below hb2);have hB2':=hB2.below hb2 hB2.lt;have RP:=hB3.below hb2 hB3.lt;have Z4:=ZE hacc QQ hb2;have hz2:=hb2.size;clear HA1 HB1 c0 c1 d0 d1 hb2 hB2 hB3;obtain⟨c0,c1,-⟩:=hB2'.two;obtain⟨d0,d1,-⟩:=RP.two;go_wp2_with fail
 refine(ze (some ⟨bb1,V6,none⟩) n cb B pb _ HB2.out.get.2.2.2.1 HBN.out QQ).mono ?_;rintro e w3 ⟨rfl,hb3⟩;rw[HEB.out];have kg:=Zy (HA2.out.below hb3);have HB3:=Zy (HB2.out.below hb3);have hB2:=hB2'.below hb3 hB2'.lt;have hB3:=RP.below hb3 RP.lt;have Ji:=ZE Z4 QQ hb3;have hz3:=hb3.size;clear HA2 HB2 c0 c1 d0 d1 hb3 hB2' RP;obtain⟨c0,c1,-⟩:=hB2.two;obtain⟨d0,d1,-⟩:=hB3.two;go_wp2_with fail
 refine(zg (some ⟨pU,pX,none⟩) (some ⟨bb1,V6,none⟩) n ca cb 0 n x y A B _ kg.out HB3.out (Z0 _) (ZB _) hn HH.out.all).mono ?_;rintro e w4 ⟨rfl,nq,rfl⟩;have dC:=below_drewN Ji nq;have HAW:=Zy (kg.out.drewN nq);have HBW:=Zy (HB3.out.drewN nq);have nR:=hB2.drewN nq;have nM:=hB3.drewN nq;have hzW:w1.heap.size<=(w3.drewN nq).heap.size:=Zh hz2 hz3;clear Ji kg HB3 hB2 hB3 c0 c1 d0 d1 Z4;generalize w3.drewN nq=W at *;obtain⟨c0,q1,-⟩:=nR.two;obtain⟨q0,q2,-⟩:=nM.two;have Yz:=nR.lt;have Yq:=nM.lt;have kK:=Zy HBW.out.lt;have HPV:=Zy (Cf B pa pb x y full lo hi fi la);rcases Z7 x y with Rj|Rj
 ·rw[decide_eq_true Rj]
  go_upto_region 14 with fail
  go_cut [13] (fun v wx=>∃vb,v=vb/\Sl wx vb ((([]++YH B pa x)++YH B x y)++YH B y pb)/\Below W.heap.size W wx)
  case first=>
   have hS0:(W.drew.cell? ⟨B3,0,none⟩=some (.slice (some ⟨bb1,V6,none⟩) n cb)/\W.drew.cell? ⟨B2,1,none⟩=some (.int .i64 (pa:Int))/\W.drew.cell? ⟨B3,1,none⟩=some (.int .i64 (pb:Int))/\Below W.heap.size W W.drew):=⟨q0,q1,q2,(ZH _ _).drew⟩
   go_region_law (first|(go_simp;go_at_call 149;((with_reducible refine(KQ B2 B3 (some ⟨bb1,V6,none⟩) n cb pa _ (ps0 ‹_›) (ps1 ‹_›)).mono ?_);rintro e w4 ⟨J4,rfl,Ct,nD,hb4⟩;have J3:W.heap.size<=J4:=Zh (Cb ‹_›) Ct;have gI:=Ym ‹_› Yz Yq hb4 (Cb ‹_›);have hT:=gI;obtain⟨r0,r1,r2,-⟩:=hT))|(go_simp;go_at_call 152;((with_reducible refine(Kh J4 J4 0 (some ⟨bb1,V6,none⟩) n cb pa x y B _ _ ((kK.out.JZ (Kv ‹_›)).imp (fun q hq=>Zc hq J3)) nD QQ hxy JK hn QZ).mono ?_);rintro e w5 ⟨rfl,nC,hb5,Ry⟩;have hS5:=Ym ‹_› Yz Yq hb5 J3;have hT:=hS5;obtain⟨r0,r1,r2,-⟩:=hT))|(go_simp;go_at_call 151;((with_reducible refine(JU J4 J4 2 (some ⟨bb1,V6,none⟩) n cb y pb B _ _ ((kK.out.JZ (Kv ‹_›)).imp (fun q hq=>Zc hq J3)) nC QQ hpb hn QZ).mono ?_);rintro e w6 ⟨rfl,hJ6,hb6,mh⟩;have nk:=Ym ‹_› Yz Yq hb6 J3;have hT:=nk;obtain⟨r0,r1,r2,-⟩:=hT;obtain⟨il,Wh,tX,QKY,hl6⟩:=hJ6;obtain⟨-,-,k6,-⟩:=Wh.three;obtain⟨Sd,Sb,Sc,rfl⟩:=tX.form)))
   all_goals
    have hbW:Below W.heap.size W w6:=Kv ‹_›;have hSl:=tX.sl;go_wp2;go_meet;exact⟨_,rfl,hSl,hbW⟩
  case rest=>
   obtain⟨vb,rfl,OT,M4⟩:=hcut;obtain⟨ab,nb,cb2,rfl,-⟩:=id OT;obtain⟨QQJ,hb0⟩:∃s,(([]++YH B pa x)++YH B x y)++YH B y pb=s:=⟨_,rfl⟩;have HB0:=Zy hb0;rw[hb0]at OT;have gX:=Zy OT;have QXt:=Zy (HAW.out.below M4);have Iw:=Zy (HBW.out.below M4);have Iz:=nR.below M4 Yz;have Iq:=nM.below M4 Yq;have IV:=ZE dC QQ M4;have hzV:=M4.size;clear OT q0 q1 q2 c0 kK nR nM HAW HBW M4 dC hb0;have Yz:=Iz.lt;have Yq:=Iq.lt;obtain⟨V0,hV0⟩:∃V,V=wc:=⟨_,rfl⟩;subst hV0;go_wp2
   go_loopw [14] (fun i wr=>∃k:Nat,i=.int .i64 (k:Int)/\full<=k/\k<=n/\∃m,wr=V0.drewN m) (fun i _=>(intOf i).toNat)
   case atStart=>exact⟨n,rfl,hfn,ZB _,0,rfl⟩
   case round=>
    obtain⟨k,rfl,hk1,hk2,m,rfl⟩:=hrel;obtain⟨c0,q1,-⟩:=(Iz.drewN m).two;obtain⟨q0,q2,-⟩:=(Iq.drewN m).two;by_cases hkf:full<k
    ·have i1:(0:Int)<(k:Int):=by omega
     have e1:=(Iw.out.drewN m).get.2.2.2.1.tO (k:=k-1) (by rw[HBN.out];omega);have i2:(k:Int)-1=((k-1:Nat):Int):=QQ;have i3:((k-1:Nat):Int)<(n:Int):=QQ;have he:(ix B (k-1)==32)=true:=by simpa using HH.out.Ik.blank (k-1) QQ QQ
     go_wp2;go_roundw
     case rel=>exact⟨k-1,rfl,QQ,QQ,_,rfl⟩
     case measure=>simp[intOf];omega
    ·obtain rfl:k=full:=by omega
     go_upto_region 16 with fail
     go_cut [86] (fun v wx=>v=.bool false/\wx=V0.drewN m)
     case first=>
      by_cases h0:0<k
      ·have i1:(0:Int)<(k:Int):=by omega
       have e1:=(Iw.out.drewN m).get.2.2.2.1.tO (k:=k-1) (by rw[HBN.out];omega);have i2:(k:Int)-1=((k-1:Nat):Int):=QQ;have i3:((k-1:Nat):Int)<(n:Int):=QQ;have he:(ix B (k-1)==32)=false:=by simpa using HH.out.Ik.last h0
       exact QDL
      ·have i1:¬(0:Int)<(k:Int):=by omega
       exact QDL
     case rest=>
      obtain⟨rfl,rfl⟩:=hcut;go_wp2_with fail
      refine(zg (some ⟨pU,pX,none⟩) (some ⟨bb1,V6,none⟩) n ca cb 0 k lo hi A B _ (QXt.out.drewN m) (Iw.out.drewN m) (Z0 _) hk2 hn HH.out.head).mono ?_;rintro e w4 ⟨rfl,nq1,rfl⟩;have gZ:=Zy ((gX.out.drewN m).drewN nq1);have tJ:=below_drewN (below_drewN IV m) nq1;have HAY:=Zy ((QXt.out.drewN m).drewN nq1);have HBY:=Zy ((Iw.out.drewN m).drewN nq1);have QZ6:=(Iz.drewN m).drewN nq1;have QZ4:=(Iq.drewN m).drewN nq1;have hzY:W.heap.size<=((V0.drewN m).drewN nq1).heap.size:=hzV;clear QXt Iw Iz Iq Yz Yq IV gX c0 q0 q1 q2 hzV hkf hk1;generalize((V0.drewN m).drewN nq1)=Y at *;obtain⟨c0,q1,-⟩:=QZ6.two;obtain⟨q0,q2,-⟩:=QZ4.two;go_wp2_with fail
      refine(zg (some ⟨pU,pX,none⟩) (some ⟨bb1,V6,none⟩) n ca cb k n fi la A B _ HAY.out HBY.out hk2 (ZB _) hn HH.out.tail).mono ?_;rintro e w4 ⟨rfl,nq2,rfl⟩;have QQk:=Zy (gZ.out.drewN nq2);have IV:=below_drewN tJ nq2;have Iw:=Zy (HBY.out.drewN nq2);have Iz:=QZ6.drewN nq2;have Iq:=QZ4.drewN nq2;have hzX:W.heap.size<=(Y.drewN nq2).heap.size:=hzY;clear HAY HBY QZ6 QZ4 gZ c0 q0 q1 q2 hzY tJ;generalize(Y.drewN nq2)=V at *;have Yz:=Iz.lt;have Yq:=Iq.lt;obtain⟨c0,q1,-⟩:=Iz.two;obtain⟨q0,q2,-⟩:=Iq.two;obtain⟨full,hfull⟩:∃f,f=k:=⟨_,rfl⟩;subst hfull;rcases Z7 fi la with htl|htl
      ·rw[decide_eq_true htl]
       go_wp2
       go_loopw [13,21] (fun bv p wr=>∃P j:Nat,p=.int .i64 (P:Int)/\Hid (P=full+j)/\j<=fi+1-full/\P<=fi+1/\Sl wr bv (KZ QQJ ((U3 lo hi full j).map (fun p=>zI B pa p pb)))/\Below V.heap.size V wr) (fun _ p _=>fi+1-(intOf p).toNat)
       case atStart=>exact⟨full,0,rfl,Zy rfl,Z0 _,QQ,QQk.out,ZH _ _⟩
       case round=>
        obtain⟨P,j,rfl,HP,hj,Qjt,hbj,hbr⟩:=hrel;obtain⟨abj,nbj,cbj,rfl,-⟩:=id hbj;by_cases hlt:P<=fi
        ·obtain⟨BB,nI⟩:∃BB,KZ QQJ ((U3 lo hi full j).map (fun p=>zI B pa p pb))=BB:=⟨_,rfl⟩
         have gY:=Zy nI;rw[nI]at hbj;have HBR:=Zy hbj;have nu:P<=n:=QQ;have hPf:P<=fi:=QQ;have i1:((P:Nat):Int)<=(fi:Int):=QQ;have nO:=Iz.below hbr Yz;have nL:=Iq.below hbr Yq;have kK:=Zy (Iw.out.below hbr).lt;clear nI hbj q0 q1 q2 c0;obtain⟨-,q1,-⟩:=nO.two;obtain⟨q0,q2,-⟩:=nL.two;have QxG:=Yz;have QxF:=Yq;have Yz:=nO.lt;have Yq:=nL.lt;obtain⟨V2,hV2⟩:∃V,V=wr:=⟨_,rfl⟩;subst hV2;by_cases hm:lo<hi
         ·have HPA:=Zy (show(VO lo hi (full+j))=[[(lo,some hi),(P,none)],[(P,none),(lo,some hi)]] by unfold VO;rw[if_pos hm,<-HP.out])
          rw[decide_eq_true hm];go_upto_region 25 with fail
          go_cut [22] (fun v wx=>∃us,Vs wx v us/\Lists wx us [(([]++YH B pa P)++[11])++YH B P pb]/\Below V2.heap.size V2 wx)
          case first=>
           exact QC1
          case rest=>
           obtain⟨us0,QVs,QWz,hbx0⟩:=hcut;obtain⟨va0,vn0,vc0,rfl,-⟩:=QVs;have QzZ:=Zy (HBR.out.below hbx0);have QJw:=ZE hbr hbr.size hbx0;have QKG:=nO.below hbx0 Yz;have QKF:=nL.below hbx0 Yq;have QqP:=Zy ((Iw.out.below QJw).lt);clear QWz q0 q1 q2 HBR kK hbx0 hbr nO nL;have HBR:=QzZ;have hbr:=QJw;have kK:=QqP;obtain⟨-,q1,-⟩:=QKG.two;obtain⟨q0,q2,-⟩:=QKF.two;have Yz:=QKG.lt;have Yq:=QKF.lt;obtain⟨V4,hV4⟩:∃V,V=wc:=⟨_,rfl⟩;subst hV4;go_upto_region 27 with fail
           go_cut [22] (fun v wx=>∃us,Vs wx v us/\Lists wx us [(((([]++YH B pa lo)++YH B lo hi)++YH B hi P)++[11])++YH B P pb,(((([]++YH B pa P)++[11])++YH B P lo)++YH B lo hi)++YH B hi pb]/\Below V4.heap.size V4 wx)
           case first=>
            refine wp_region_held_drew (S:=(fun w'=>w'.cell? ⟨B3,0,none⟩=some (.slice (some ⟨bb1,V6,none⟩) n cb)/\w'.cell? ⟨B2,1,none⟩=some (.int .i64 (pa:Int))/\w'.cell? ⟨B3,1,none⟩=some (.int .i64 (pb:Int))/\Below V4.heap.size V4 w')) QX ⟨q0,q1,q2,(ZH _ _).drew⟩ ?_;intro hSd;refine ZP 0 ⟨some 131,.move (.tmp 9),_,_,_,_⟩ ((.func (.func 149) #[] #[.pointer (some ⟨B3,0,none⟩),.pointer (some ⟨B2,0,none⟩)])) ?_;simp only[Act.put,Zj,Zk,Zu];refine ZP 2 ⟨some 133,.move (.tmp 15),_,_,_,_⟩ ((.int .i64 (lo:Int))) ?_;simp only[Act.put,Zj,Zk,Zu];refine ZP 3 ⟨some 134,.move (.tmp 16),_,_,_,_⟩ ((.int .i64 (hi:Int))) ?_;simp only[Act.put,Zj,Zk,Zu];refine ZP 5 ⟨some 136,.move (.tmp 21),_,_,_,_⟩ ((.int .i64 (P:Int))) ?_;simp only[Act.put,Zj,Zk,Zu];refine ZP 7 ⟨some 138,.fieldAddr 39 (.tmp 3) 1,_,_,_,_⟩ ((.pointer (some ⟨B3,1,none⟩))) ?_;simp only[Act.put,Zj,Zk,Zu];refine ZP 8 ⟨some 139,.load 3 (.tmp 138),_,_,_,_⟩ ((.int .i64 (pb:Int))) ?_;simp only[Act.put,Zj,Zk,Zu];refine ZP 13 ⟨some 144,.move (.tmp 9),_,_,_,_⟩ ((.func (.func 149) #[] #[.pointer (some ⟨B3,0,none⟩),.pointer (some ⟨B2,0,none⟩)])) ?_;simp only[Act.put,Zj,Zk,Zu];refine ZP 15 ⟨some 146,.move (.tmp 21),_,_,_,_⟩ ((.int .i64 (P:Int))) ?_;simp only[Act.put,Zj,Zk,Zu];refine ZP 17 ⟨some 148,.move (.tmp 15),_,_,_,_⟩ ((.int .i64 (lo:Int))) ?_;simp only[Act.put,Zj,Zk,Zu];refine ZP 18 ⟨some 149,.move (.tmp 16),_,_,_,_⟩ ((.int .i64 (hi:Int))) ?_;simp only[Act.put,Zj,Zk,Zu];refine ZP 20 ⟨some 151,.fieldAddr 39 (.tmp 3) 1,_,_,_,_⟩ ((.pointer (some ⟨B3,1,none⟩))) ?_;simp only[Act.put,Zj,Zk,Zu];refine ZP 21 ⟨some 152,.load 3 (.tmp 151),_,_,_,_⟩ ((.int .i64 (pb:Int))) ?_;simp only[Act.put,Zj,Zk,Zu];refine Zl (rs:=[1]) QX QJ ?_;refine ZO (o:=⟨some 132,_,_,_,_,_⟩) rfl (fun K hK=>?_) ?_
            ·go_simp
             refine(KQ B2 B3 (some ⟨bb1,V6,none⟩) n cb pa _ (ps0 ‹_›) (ps1 ‹_›)).mono ?_;rintro e w4 ⟨J4,rfl,Ct,nD,hb4⟩;have J3:V4.heap.size<=J4:=Zh (Cb ‹_›) Ct;have gI:=Ym ‹_› Yz Yq hb4 (Cb ‹_›);dsimp only;refine hK.out _ _ gI (fun hHeld=>?_);clear hK K;refine Zl (rs:=[4]) QX QJ ?_;refine ZO (o:=⟨some 135,_,_,_,_,_⟩) rfl (fun K hK=>?_) ?_
             ·go_simp
              refine(Kh J4 J4 0 (some ⟨bb1,V6,none⟩) n cb pa lo hi B _ _ ((kK.out.JZ (Kv ‹_›)).imp (fun q hq=>Zc hq J3)) nD QQ hlh QQ hn QZ).mono ?_;rintro e w5 ⟨rfl,nC,hb5,Ry⟩;have hS5:=Ym ‹_› Yz Yq hb5 J3;dsimp only;refine hK.out _ _ hS5 (fun hHeld=>?_);clear hK K;refine Zl (rs:=[6]) QX QJ ?_;refine ZO (o:=⟨some 137,_,_,_,_,_⟩) rfl (fun K hK=>?_) ?_
              ·go_simp
               refine(KV J4 J4 2 (some ⟨bb1,V6,none⟩) n cb hi P B _ _ ((kK.out.JZ (Kv ‹_›)).imp (fun q hq=>Zc hq J3)) nC QQ nu hn QZ).mono ?_;rintro e w6 ⟨rfl,hJ6,hb6,mh⟩;have nk:=Ym ‹_› Yz Yq hb6 J3;dsimp only;refine hK.out _ _ nk (fun hHeld=>?_);clear hK K;refine Zl (rs:=[9]) QX QJ ?_;refine ZO (o:=⟨some 140,_,_,_,_,_⟩) rfl (fun K hK=>?_) ?_
               ·go_simp
                refine(JU J4 J4 4 (some ⟨bb1,V6,none⟩) n cb P pb B _ _ ((kK.out.JZ (Kv ‹_›)).imp (fun q hq=>Zc hq J3)) hJ6 nu hpb hn QZ).mono ?_;rintro e w7 ⟨rfl,hJ7,qz,hz7⟩;have hS7:=Ym ‹_› Yz Yq qz J3;obtain⟨sv7,kL,nQ,Qjg,hl7⟩:=hJ7;obtain⟨-,-,k7,-⟩:=kL.three;obtain⟨xB,xu,xA,rfl⟩:=nQ.form;dsimp only;refine hK.out _ _ hS7 (fun hHeld=>?_);clear hK K;refine ZP 10 ⟨some 141,.nilCheck (.tmp 140),_,_,_,_⟩ ((.pointer (some ⟨J4,0,none⟩))) ?_;simp only[Act.put,Zj,Zk,Zu];refine ZP 11 ⟨some 142,.fieldAddr 228 (.tmp 141) 2,_,_,_,_⟩ ((.pointer (some ⟨J4,2,none⟩))) ?_;simp only[Act.put,Zj,Zk,Zu];refine Zl (rs:=[12,14]) QX QJ ?_;refine ZO (o:=⟨some 143,.load 26 (.tmp 142),_,_,_,_⟩) rfl (fun K hK=>?_) ?_
                ·go_simp
                 refine hK.out _ _ QH (fun hHeld=>?_);clear hK K;refine Zl (rs:=[14]) QX QJ ?_;refine ZO (o:=⟨some 145,_,_,_,_,_⟩) rfl (fun K hK=>?_) ?_
                 ·go_simp
                  refine(KQ B2 B3 (some ⟨bb1,V6,none⟩) n cb pa _ (ps0 ‹_›) (ps1 ‹_›)).mono ?_;rintro e w8 ⟨J8,rfl,uj,hJ8,XF⟩;have Jl:V4.heap.size<=J8:=Zh (Cb ‹_›) uj;have hS8:=Ym ‹_› Yz Yq XF (Cb ‹_›);have jO:J4<J8:=Zc kL.lt uj;have l8:=(X9 XF (p:=⟨J4,2,none⟩) kL.lt).trans k7;have p8:=nQ.sl.below XF;have z8:=XF.size;dsimp only;refine hK.out _ _ hS8 (fun hHeld=>?_);exact QF8
                 exact Zg
                refine ZO (o:=⟨some 145,_,_,_,_,_⟩) rfl (fun K hK=>?_) ?_
                ·go_simp
                 refine(KQ B2 B3 (some ⟨bb1,V6,none⟩) n cb pa _ (ps0 ‹_›) (ps1 ‹_›)).mono ?_;rintro e w8 ⟨J8,rfl,uj,hJ8,XF⟩;have Jl:V4.heap.size<=J8:=Zh (Cb ‹_›) uj;have hS8:=Ym ‹_› Yz Yq XF (Cb ‹_›);have jO:J4<J8:=Zc kL.lt uj;have l8:=(X9 XF (p:=⟨J4,2,none⟩) kL.lt).trans k7;have p8:=nQ.sl.below XF;have z8:=XF.size;dsimp only;refine hK.out _ _ hS8 (fun hHeld=>?_);clear hK K;refine Zl (rs:=[12,16]) QX QJ ?_;refine ZO (o:=⟨some 143,.load 26 (.tmp 142),_,_,_,_⟩) rfl (fun K hK=>?_) ?_
                 ·go_simp
                  refine hK.out _ _ QH (fun hHeld=>?_);exact QF8
                 refine ZO (o:=⟨some 147,_,_,_,_,_⟩) rfl (fun K hK=>?_) ?_
                 ·go_simp
                  refine(KV J8 J8 0 (some ⟨bb1,V6,none⟩) n cb pa P B _ _ ((kK.out.JZ (Kv ‹_›)).imp (fun q hq=>Zc hq Jl)) hJ8 QQ nu hn QZ).mono ?_;rintro e w9 ⟨rfl,hJ9,Jv,qO⟩;have ny:=Ym ‹_› Yz Yq Jv Jl;have l9:=(X9 Jv (p:=⟨J4,2,none⟩) jO).trans l8;have b9:=XF.trans (Jv.mono uj);dsimp only;refine hK.out _ _ ny (fun hHeld=>?_);clear hK K;refine Zl (rs:=[12,19]) QX QJ ?_;refine ZO (o:=⟨some 143,.load 26 (.tmp 142),_,_,_,_⟩) rfl (fun K hK=>?_) ?_
                  ·go_simp
                   refine hK.out _ _ QH (fun hHeld=>?_);exact QF9
                  refine ZO (o:=⟨some 150,_,_,_,_,_⟩) rfl (fun K hK=>?_) ?_
                  ·go_simp
                   refine(Kh J8 J8 2 (some ⟨bb1,V6,none⟩) n cb P lo hi B _ _ ((kK.out.JZ (Kv ‹_›)).imp (fun q hq=>Zc hq Jl)) hJ9 nu hlh QQ hn QZ).mono ?_;rintro e qB ⟨rfl,IW,JN,IZ⟩;have M7:=Ym ‹_› Yz Yq JN Jl;have l10:=(X9 JN (p:=⟨J4,2,none⟩) jO).trans l9;have b10:=b9.trans (JN.mono uj);dsimp only;refine hK.out _ _ M7 (fun hHeld=>?_);clear hK K;refine Zl (rs:=[12,22]) QX QJ ?_;refine ZO (o:=⟨some 143,.load 26 (.tmp 142),_,_,_,_⟩) rfl (fun K hK=>?_) ?_
                   ·go_simp
                    refine hK.out _ _ QH (fun hHeld=>?_);exact QB1
                   refine ZO (o:=⟨some 153,_,_,_,_,_⟩) rfl (fun K hK=>?_) ?_
                   ·go_simp
                    refine(JU J8 J8 4 (some ⟨bb1,V6,none⟩) n cb hi pb B _ _ ((kK.out.JZ (Kv ‹_›)).imp (fun q hq=>Zc hq Jl)) IW QQ hpb hn QZ).mono ?_;rintro e zX ⟨rfl,FK,Vx,mi⟩;have xJ:=Ym ‹_› Yz Yq Vx Jl;have l11:=(X9 Vx (p:=⟨J4,2,none⟩) jO).trans l10;have b11:=b10.trans (Vx.mono uj);obtain⟨lZ,kM,xZ,Oa,Mm⟩:=FK;obtain⟨-,-,k11,-⟩:=kM.three;obtain⟨KU,KY,KJ,rfl⟩:=xZ.form;dsimp only;refine hK.out _ _ xJ (fun hHeld=>?_);clear hK K;refine ZP 23 ⟨some 154,.nilCheck (.tmp 153),_,_,_,_⟩ ((.pointer (some ⟨J8,0,none⟩))) ?_;simp only[Act.put,Zj,Zk,Zu];refine ZP 24 ⟨some 155,.fieldAddr 228 (.tmp 154) 2,_,_,_,_⟩ ((.pointer (some ⟨J8,2,none⟩))) ?_;simp only[Act.put,Zj,Zk,Zu];refine Zl (rs:=[12,25]) QX QJ ?_;refine ZO (o:=⟨some 143,.load 26 (.tmp 142),_,_,_,_⟩) rfl (fun K hK=>?_) ?_
                    ·go_simp
                     refine hK.out _ _ QH (fun hHeld=>?_);clear hK K;refine Zl (rs:=[25]) QX QJ ?_;refine ZO (o:=⟨some 156,.load 26 (.tmp 155),_,_,_,_⟩) rfl (fun K hK=>?_) ?_
                     ·go_simp
                      exact QB7
                     exact Zg
                    refine ZO (o:=⟨some 156,.load 26 (.tmp 155),_,_,_,_⟩) rfl (fun K hK=>?_) ?_
                    ·go_simp
                     refine hK.out _ _ QH (fun hHeld=>?_);clear hK K;refine Zl (rs:=[12]) QX QJ ?_;refine ZO (o:=⟨some 143,.load 26 (.tmp 142),_,_,_,_⟩) rfl (fun K hK=>?_) ?_
                     ·go_simp
                      exact QB7
                     exact Zg
                    exact Zg
                   exact Zg
                  exact Zg
                 exact Zg
                exact Zg
               exact Zg
              exact Zg
             exact Zg
            exact Zg
           case rest=>
            obtain⟨us,hvs,hls,hbx⟩:=hcut;obtain⟨va,vn,vc,rfl,ve1,ve2,ve3,ve4,ve5⟩:=hvs;obtain rfl:vn=2:=by rw[<-ve1,hls.len];rfl
            obtain⟨X,hX⟩:∃X,X=[(((([]++YH B pa lo)++YH B lo hi)++YH B hi P)++[11])++YH B P pb,(((([]++YH B pa P)++[11])++YH B P lo)++YH B lo hi)++YH B hi pb]:=⟨_,rfl⟩;rw[<-hX]at hls;have hXl:X.length=2:=by rw[hX];rfl
            have HX:=Zy hX;have Lv:=Zy hXl;have HVE:=Zy ve1;have Av:=HBR.out.below hbx;have QZM:=ZE hbr hbr.size hbx;have HB3:=Zy Av;obtain⟨V3,hV3⟩:∃V,V=wc:=⟨_,rfl⟩;subst hV3;clear hX hXl ve1 Av q0 q1 q2;go_wp2
            go_loopw [13,160] (fun bv i wr=>∃k:Nat,i=.int .i64 (k:Int)/\k<=2/\Sl wr bv (KZ BB (X.take k))/\∃m,wr=V3.drewN m) (fun _ i _=>2-(intOf i).toNat)
            case atStart=>exact⟨0,rfl,Z0 _,HB3.out,0,rfl⟩
            case round=>
             obtain⟨k,rfl,hk,hbk,m,rfl⟩:=hrel;obtain⟨xb,nb3,cb3,rfl,hxb⟩:=id hbk;have HBK:=Zy hbk;have HXB:=Zy hxb;clear hbk hxb;by_cases hlt:k<2
             ·obtain⟨b1,o1,rfl,hc1⟩:=ve4.at (k:=k) QA5
              exact QC7
             ·obtain rfl:k=2:=by omega
              exact QDH
         ·have HPA:=Zy (show(VO lo hi (full+j))=[[(P,none)]] by unfold VO;rw[if_neg hm,<-HP.out])
          rw[decide_eq_false hm];go_upto_region 25 with fail
          go_cut [22] (fun v wx=>∃us,Vs wx v us/\Lists wx us [(([]++YH B pa P)++[11])++YH B P pb]/\Below V2.heap.size V2 wx)
          case first=>
           exact QC1
          case rest=>
           obtain⟨us,hvs,hls,hbx⟩:=hcut;obtain⟨va,vn,vc,rfl,ve1,ve2,ve3,ve4,ve5⟩:=hvs;obtain rfl:vn=1:=by rw[<-ve1,hls.len];rfl
           obtain⟨X,hX⟩:∃X,X=[(([]++YH B pa P)++[11])++YH B P pb]:=⟨_,rfl⟩;rw[<-hX]at hls;have hXl:X.length=1:=by rw[hX];rfl
           have HX:=Zy hX;have Lv:=Zy hXl;have HVE:=Zy ve1;have Av:=HBR.out.below hbx;have QZM:=ZE hbr hbr.size hbx;have HB3:=Zy Av;obtain⟨V3,hV3⟩:∃V,V=wc:=⟨_,rfl⟩;subst hV3;clear hX hXl ve1 Av q0 q1 q2;go_wp2
           go_loopw [13,160] (fun bv i wr=>∃k:Nat,i=.int .i64 (k:Int)/\k<=1/\Sl wr bv (KZ BB (X.take k))/\∃m,wr=V3.drewN m) (fun _ i _=>1-(intOf i).toNat)
           case atStart=>exact⟨0,rfl,Z0 _,HB3.out,0,rfl⟩
           case round=>
            obtain⟨k,rfl,hk,hbk,m,rfl⟩:=hrel;obtain⟨xb,nb3,cb3,rfl,hxb⟩:=id hbk;have HBK:=Zy hbk;have HXB:=Zy hxb;clear hbk hxb;by_cases hlt:k<1
            ·obtain⟨b1,o1,rfl,hc1⟩:=ve4.at (k:=k) QA5
             exact QC7
            ·obtain rfl:k=1:=by omega
             exact QDH
        ·obtain rfl:j=fi+1-full:=by have:=HP.out;omega
         have i1:¬((P:Nat):Int)<=(fi:Int):=QQ;go_wp2;go_ret2
         exact⟨.slice abj nbj cbj,rfl,by rw[HPV.out.2.2 Rj htl,HB0.out];exact hbj,ZE IV QQ hbr⟩
      ·rw[decide_eq_false (Nat.not_lt.2 htl)]
       go_wp2;go_ret2
       exact⟨.slice ab nb cb2,rfl,by rw[HPV.out.2.1 Rj htl,HB0.out];exact QQk.out,IV⟩
 ·rw[decide_eq_false (Nat.not_lt.2 Rj)]
  go_upto_region 13 with fail
  have hS0:(W.drew.cell? ⟨B3,0,none⟩=some (.slice (some ⟨bb1,V6,none⟩) n cb)/\W.drew.cell? ⟨B2,1,none⟩=some (.int .i64 (pa:Int))/\W.drew.cell? ⟨B3,1,none⟩=some (.int .i64 (pb:Int))/\Below W.heap.size W W.drew):=⟨q0,q1,q2,(ZH _ _).drew⟩
  go_region_law (first|(go_simp;go_at_call 149;((with_reducible refine(KQ B2 B3 (some ⟨bb1,V6,none⟩) n cb pa _ (ps0 ‹_›) (ps1 ‹_›)).mono ?_);rintro e w4 ⟨J4,rfl,Ct,nD,hb4⟩;have J3:W.heap.size<=J4:=Zh (Cb ‹_›) Ct;have gI:=Ym ‹_› Yz Yq hb4 (Cb ‹_›);have hT:=gI;obtain⟨r0,r1,r2,-⟩:=hT))|(go_simp;go_at_call 151;((with_reducible refine(JU J4 J4 0 (some ⟨bb1,V6,none⟩) n cb pa pb B _ _ ((kK.out.JZ (Kv ‹_›)).imp (fun q hq=>Zc hq J3)) nD QQ hpb hn QZ).mono ?_);rintro e w5 ⟨rfl,nC,hb5,Ry⟩;have hS5:=Ym ‹_› Yz Yq hb5 J3;have hT:=hS5;obtain⟨r0,r1,r2,-⟩:=hT;obtain⟨sv5,JS,ho5,Qjh,hl5⟩:=nC;obtain⟨-,-,k5,-⟩:=JS.three;obtain⟨sa5,sn5,sc5,rfl⟩:=ho5.form)))
  all_goals
   have hbW:Below W.heap.size W w5:=Kv ‹_›;have hSl:=ho5.sl;go_wp2;go_ret2
   exact⟨.slice sa5 sn5 sc5,rfl,by rw[HPV.out.1 Rj];exact hSl,ZE dC QQ hbW⟩
end Go.Proofs.YtmdcencmiopmmaaGreat
