/- joined, no condition of its own. -/
import Derived.Test.YtmdnepkekekncaaGreatJfJ48
set_option linter.unusedVariables false
set_option linter.unusedSimpArgs false
set_option maxRecDepth 100000
set_option maxHeartbeats 12000000
namespace Go.Proofs.YtmdnepkekekncaaGreat
open Go.RowKit
structure Ri (w wx:World) (a b c d g:Int) (v:Value) (L:List Int):Prop where
 blk:Za wx w.heap.size #[.int .i64 a,.int .i64 b,.int .i64 c,.int .i64 d,.int .i64 g] 39
 own:Own 3 (w.heap.size+1) wx v L
 Xw:Below w.heap.size w wx
def jc(b:Int):List Int:=if b≠0 then[34,b]else[]
def ou(c:Int):List Int:=if c≠0 then[c]else[]
theorem R7(a b c d g:Int):Xu ⟨a,b,c,d,g⟩=jc b++Gp a++ou c++[d]++(if jH ⟨a,b,c,d,g⟩=true then[g]else[]):=rfl
theorem tV(b:Int):(jc b).length<=2:=by unfold jc;split<;>simp
theorem QYF(b:Int):(ou b).length<=1:=by unfold ou;split<;>simp
def QJt(c:C5)(w:World)(e:Ending)(w':World):Prop:=
 ∃v,e=.returned (.tuple #[v,.int .i64 (oz c)])/\Own 3 w.heap.size w' v (Md c)/\Below w.heap.size w w'
theorem kQ(w:World)(x:Int):Ints (w.alloc (.cells #[.int .i64 x] 3)) (some ⟨w.heap.size,0,none⟩) [x]:=by
 exact QIN
theorem tO(w:World)(x y:Int):Ints (w.alloc (.cells #[.int .i64 x,.int .i64 y] 3)) (some ⟨w.heap.size,0,none⟩) [x,y]:=by
 obtain⟨y0,y1,-,-⟩:=Za.two (Za.new w #[.int .i64 x,.int .i64 y] 3);refine .inr ⟨_,0,rfl,fun i hi=>?_⟩;have hi2:i=0\/i=1:=QS;rcases hi2 with rfl|rfl
 ·exact y0
 ·exact y1
theorem Ri.app{w w4 w3:World}{a b c d g:Int}{v v3:Value}{L L2:List Int}{o:Obj}(h:Ri w w4 a b c d g v L)(hown3:Own 3 (w.heap.size+1) w3 v3 L2)(hg:(w4.alloc o).grownBy w3 v.ownBlock):Ri w w3 a b c d g v3 L2:=by
 have hb:=h.Xw.alloc h.Xw.size o;refine⟨(h.blk.alloc o).grown hg (h.own.XP h.blk QZ),hown3,hb.grown hg (XJ h.Xw.size _) (h.own.mono QQ).row⟩
theorem Ri.below{w w4 w3:World}{a b c d g:Int}{v:Value}{L:List Int}(h:Ri w w4 a b c d g v L)(hb:Below w4.heap.size w4 w3):Ri w w3 a b c d g v L:=
 ⟨h.blk.below hb h.blk.lt,h.own.kept hb,ZE h.Xw h.Xw.size hb⟩
theorem Ri.hz{w w4:World}{a b c d g:Int}{v:Value}{L:List Int}(h:Ri w w4 a b c d g v L):w.heap.size+1<=w4.heap.size:=h.blk.lt
theorem Nn(a b c d g:Int)(w:World):
  Calls Tryz.prog 21 #[.agg #[.int .i64 a,.int .i64 b,.int .i64 c,.int .i64 d,.int .i64 g]] w (QJt ⟨a,b,c,d,g⟩ w):=by
 have hA:=Za.new w #[.int .i64 a,.int .i64 b,.int .i64 c,.int .i64 d,.int .i64 g] 39;have hacc:=ZR w (.cells #[.int .i64 a,.int .i64 b,.int .i64 c,.int .i64 d,.int .i64 g] 39);go_enter Tryz.func21,Tryz.ntmps21
 go_upto_region 1 with fail
 generalize w.alloc (.cells #[.int .i64 a,.int .i64 b,.int .i64 c,.int .i64 d,.int .i64 g] 39)=w1 at *;by_cases hin:0<=a/\a<=999
 ·obtain⟨ha0,ha1⟩:=hin
  have HE:=Zy (show Md ⟨a,b,c,d,g⟩=(if xQ ⟨a,b,c,d,g⟩=true then Xu ⟨a,b,c,d,g⟩else[])/\oz ⟨a,b,c,d,g⟩=(if xQ ⟨a,b,c,d,g⟩=true then 0 else 4) by unfold Md oz;constructor<;>rw[if_neg QY]);obtain⟨c0,c1,c2,c3,c4⟩:=hA.five;go_upto_if 19 with fail
  go_cut [4] (fun v wx=>Ri w wx a b c d g v (jc b))
  case first=>
   have hz:=hA.lt;by_cases hb:b=0
   ·subst hb
    go_wp2;go_meet;exact⟨hA,Own.nil _ _ _,hacc⟩
   ·have hb':(b !=0)=true:=by simpa using hb
    have HB:=Zy (show jc b=[34,b] by unfold jc;rw[if_pos hb]);clear hb;have h0:Ri w w1 a b c d g (.slice none 0 0) []:=⟨hA,Own.nil _ _ _,hacc⟩;go_wp2_with (at_builtin;refine kL rfl _ _ rfl (w.heap.size+1) _ [] [34,b] _ 2 2 rfl rfl (h0.own.alloc _) (tO _ _ _) rfl QJ (XJ h0.hz _) ?_;intro v3 w3 hown3 hgrow3 _)
    go_meet;rw[HB.out];exact h0.app hown3 hgrow3
  case rest=>
   have H6:=hcut;clear hA hacc c0 c1 c2 c3 c4;obtain⟨V,hV⟩:∃V,V=wc:=⟨_,rfl⟩;subst hV;go_upto_region 7 with fail
   have D1:=Zy (show(if 100<=a then[48+a / 100 % 10]else[])++(if 10<=a then[48+a / 10 % 10]else[])++(if 1<=a then[48+a % 10]else[])=Gp a from rfl)
   go_loopw [5,4] (fun nv v wr=>∃(x:Int) (L:List Int),nv=.int .i64 x/\Ri w wr a b c d g v L/\((x=100/\L=jc b/\L.length<=2)\/(x=10/\L=jc b++(if 100<=a then[48+a / 100 % 10]else[])/\L.length<=3)\/(x=1/\L=jc b++(if 100<=a then[48+a / 100 % 10]else[])++(if 10<=a then[48+a / 10 % 10]else[])/\L.length<=4)\/(x=0/\L=jc b++Gp a/\L.length<=5))) (fun nv _ _=>(intOf nv).toNat)
   case atStart=>exact⟨100,_,rfl,H6,.inl ⟨rfl,rfl,tV b⟩⟩
   case round=>
    obtain⟨x,L,rfl,HW,hcase⟩:=hrel;obtain⟨c0,c1,c2,c3,c4⟩:=HW.blk.five;rcases hcase with⟨rfl,hL,hll⟩|⟨rfl,hL,hll⟩|⟨rfl,hL,hll⟩|⟨rfl,hL,hll⟩
    ·subst hL
     have hown:=HW.own;have hz:=HW.hz;by_cases hd:100<=a
     ·go_wp2_with (at_builtin;refine kL rfl _ _ rfl (w.heap.size+1) _ _ [48+a / 100 % 10] _ 1 1 rfl rfl (hown.alloc _) (kQ _ _) rfl QQ (XJ hz _) ?_;intro v3 w3 hown3 hgrow3 _)
      go_roundw
      case rel=>exact⟨10,_,rfl,HW.app hown3 hgrow3,.inr (.inl ⟨rfl,by rw[if_pos hd],QY⟩)⟩
      case measure=>simp[intOf]
     ·go_wp2
      go_roundw
      case rel=>exact⟨10,_,rfl,HW,.inr (.inl ⟨rfl,by rw[if_neg hd];simp,QQ⟩)⟩
      case measure=>simp[intOf]
    ·have HL:=Zy hL
     clear hL;have hown:=HW.own;have hz:=HW.hz;by_cases hd:10<=a
     ·go_wp2_with (at_builtin;refine kL rfl _ _ rfl (w.heap.size+1) _ _ [48+a / 10 % 10] _ 1 1 rfl rfl (hown.alloc _) (kQ _ _) rfl QQ (XJ hz _) ?_;intro v3 w3 hown3 hgrow3 _)
      go_roundw
      case rel=>exact⟨1,_,rfl,HW.app hown3 hgrow3,.inr (.inr (.inl ⟨rfl,by rw[HL.out,if_pos hd],QY⟩))⟩
      case measure=>simp[intOf]
     ·go_wp2
      go_roundw
      case rel=>exact⟨1,_,rfl,HW,.inr (.inr (.inl ⟨rfl,by rw[HL.out,if_neg hd];simp,QQ⟩))⟩
      case measure=>simp[intOf]
    ·have HL:=Zy hL
     clear hL;have hown:=HW.own;have hz:=HW.hz;by_cases hd:1<=a
     ·go_wp2_with (at_builtin;refine kL rfl _ _ rfl (w.heap.size+1) _ _ [48+a % 10] _ 1 1 rfl rfl (hown.alloc _) (kQ _ _) rfl QQ (XJ hz _) ?_;intro v3 w3 hown3 hgrow3 _)
      go_roundw
      case rel=>exact⟨0,_,rfl,HW.app hown3 hgrow3,.inr (.inr (.inr ⟨rfl,by rw[HL.out,<-D1.out,if_pos hd];simp,QY⟩))⟩
      case measure=>simp[intOf]
     ·go_wp2
      go_roundw
      case rel=>exact⟨0,_,rfl,HW,.inr (.inr (.inr ⟨rfl,by rw[HL.out,<-D1.out,if_neg hd];simp,QQ⟩))⟩
      case measure=>simp[intOf]
    ·subst hL
     go_upto_if 44 with fail
     go_cut [4] (fun v wx=>Ri w wx a b c d g v (jc b++Gp a++ou c))
     case first=>
      have hown:=HW.own;have hz:=HW.hz;by_cases hc:c=0
      ·have HC:=Zy (show ou c=[] by unfold ou;rw[hc];rfl)
       subst hc;go_wp2;go_meet;rw[HC.out,List.append_nil];exact HW
      ·have HC:=Zy (show ou c=[c] by unfold ou;rw[if_pos hc])
       have hc':(c !=0)=true:=by simpa using hc
       clear hc;go_wp2_with (at_builtin;refine kL rfl _ _ rfl (w.heap.size+1) _ _ [c] _ 1 1 rfl rfl (hown.alloc _) (kQ _ _) rfl QQ (XJ hz _) ?_;intro v3 w3 hown3 hgrow3 _)
       go_meet;rw[HC.out];exact HW.app hown3 hgrow3
     case rest=>
      have HV:=hcut;obtain⟨V2,hV⟩:∃V,V=wc:=⟨_,rfl⟩;subst hV;clear c0 c1 c2 c3 c4 HW H6;obtain⟨c0,c1,c2,c3,c4⟩:=HV.blk.five;have hown:=HV.own;have hz:=HV.hz;have hlen:(jc b++Gp a++ou c).length<=6:=by have:=QYF c;simp at hll ⊢;omega
      go_wp2_with (at_builtin;refine kL rfl _ _ rfl (w.heap.size+1) _ _ [d] _ 1 1 rfl rfl (hown.alloc _) (kQ _ _) rfl QQ (XJ hz _) ?_;intro v3 w3 hown3 hgrow3 _;obtain⟨c0,c1,c2,c3,c4⟩:=(HV.app hown3 hgrow3).blk.five)
      have HX:=HV.app hown3 hgrow3;clear c0 c1 c2 c3 c4 HV;obtain⟨c0,c1,c2,c3,c4⟩:=HX.blk.five;refine(Np a b c d g _).mono ?_;rintro e w5 ⟨rfl,hb5⟩;obtain⟨wb,hwb⟩:∃wb,jH ⟨a,b,c,d,g⟩=wb:=⟨_,rfl⟩;rw[hwb];have HWB:=Zy hwb;have HY:=HX.below hb5;clear c0 c1 c2 c3 c4 HX hb5 hwb hown;obtain⟨c0,c1,c2,c3,c4⟩:=HY.blk.five;have hown:=HY.own;have hz:=HY.hz;have QZ8:(jc b++Gp a++ou c++[d]).length<=7:=by rw[ZN];simp only[Xq,List.length_nil];omega
      have HW0:=Zy (R7 a b c d g);go_upto_if 56 with fail
      go_cut [4] (fun v wx=>Ri w wx a b c d g v (Xu ⟨a,b,c,d,g⟩))
      case first=>
       rcases wb with _|_
       ·go_wp2
        go_meet;rw[HW0.out,if_neg (by rw[HWB.out];simp),List.append_nil];exact HY
       ·go_wp2_with (at_builtin;refine kL rfl _ _ rfl (w.heap.size+1) _ _ [g] _ 1 1 rfl rfl (hown.alloc _) (kQ _ _) rfl QQ (XJ hz _) ?_;intro v4 w6 zq BO _)
        go_meet;rw[HW0.out,if_pos HWB.out];exact HY.app zq BO
      case rest=>
       have HZ:=hcut;have hlen3:(Xu ⟨a,b,c,d,g⟩).length<=8:=by
        rw[HW0.out];split<;>simp at QZ8 ⊢<;>omega
       clear c0 c1 c2 c3 c4 HY hown hz QZ8 hll hlen HW0 HWB D1;obtain⟨V3,hV⟩:∃V,V=wc:=⟨_,rfl⟩;subst hV;obtain⟨va,vn,vc,rfl⟩:=HZ.own.form;go_wp2_with fail
       refine(iY va vn vc (Xu ⟨a,b,c,d,g⟩) V3 HZ.own.get.2.1 HZ.own.get.1 (by have:=HZ.own.get.1;omega)).mono ?_;rintro e w7 ⟨v7,rfl,Te,WC⟩;have HZ:=HZ.below WC;have xK:=Zy (show xQ ⟨a,b,c,d,g⟩=(decide ((Vh (Xu ⟨a,b,c,d,g⟩)).out=[⟨a,b,c,d,g⟩])&&decide ((Vh (Xu ⟨a,b,c,d,g⟩)).p=Vz)&&decide ((Vh (Xu ⟨a,b,c,d,g⟩)).n=0))from rfl);have hgd:=(Ig (Xu ⟨a,b,c,d,g⟩)).len;generalize Vh (Xu ⟨a,b,c,d,g⟩)=st at *;obtain⟨out,⟨p0,p1,p2,p3,p4⟩,nn⟩:=st;simp only at Te xK hgd;have Wi:=Zy (show _/\_/\_ from⟨Za.new w7 #[.int .i64 p0,.int .i64 p1,.int .i64 p2,.int .i64 p3,.int .i64 p4] 44,HZ.below (ZR w7 (.cells #[.int .i64 p0,.int .i64 p1,.int .i64 p2,.int .i64 p3,.int .i64 p4] 44)),Te.alloc (.cells #[.int .i64 p0,.int .i64 p1,.int .i64 p2,.int .i64 p3,.int .i64 p4] 44)⟩);clear HZ Te WC hcut;go_upto_region 17 with fail
       generalize w7.alloc (.cells #[.int .i64 p0,.int .i64 p1,.int .i64 p2,.int .i64 p3,.int .i64 p4] 44)=w8 at *;generalize w7.heap.size=N7 at *;obtain⟨T9,HZ,OJ⟩:=Wi.out;obtain⟨a7,c7,rfl,hcap,hcap2,hnone⟩:=OJ.form;obtain⟨hcm,-⟩:=OJ.Qx3;obtain⟨c0,c1,c2,c3,c4⟩:=HZ.blk.five;obtain⟨q0,q1,q2,q3,q4⟩:=T9.five
       go_cut [86] (fun v wx=>∃ok:Bool,v=.bool ok/\(ok=false↔xQ ⟨a,b,c,d,g⟩=true)/\∃n,wx=w8.drewN n)
       case first=>
        by_cases hl1:out.length=1
        ·obtain⟨u,rfl⟩:∃u,out=[u]:=by
          match out,hl1 with
          | [u],_=>exact⟨u,rfl⟩
         rcases hcm with h|⟨b1,o1,rfl,h1⟩
         ·simp at h
         have d0:w8.cell? ⟨b1,o1,none⟩=some (.int .i64 u.a):=h1 0 QJ 0 _ rfl;have d1:w8.cell? ⟨b1,o1+1,none⟩=some (.int .i64 u.b):=h1 0 QJ 1 _ rfl;have d2:w8.cell? ⟨b1,o1+2,none⟩=some (.int .i64 u.c):=h1 0 QJ 2 _ rfl;have d3:w8.cell? ⟨b1,o1+3,none⟩=some (.int .i64 u.d):=h1 0 QJ 3 _ rfl;have d4:w8.cell? ⟨b1,o1+4,none⟩=some (.int .i64 u.e):=h1 0 QJ 4 _ rfl;obtain⟨ua,ub,uc,ud,ue⟩:=u;simp only at d0 d1 d2 d3 d4;clear h1;by_cases hua:a=ua
         ·subst hua
          by_cases hub:b=ub
          ·subst hub
           by_cases huc:c=uc
           ·subst huc
            by_cases hud:d=ud
            ·subst hud
             by_cases hue:g=ue
             ·subst hue
              by_cases hp0:p0=0
              ·subst hp0
               by_cases hp1:p1=0
               ·subst hp1
                by_cases hp2:p2=0
                ·subst hp2
                 by_cases hp3:p3=0
                 ·subst hp3
                  by_cases xJ:p4=0
                  ·subst xJ
                   by_cases hnn:nn=0
                   ·subst hnn
                    go_wp2
                    go_quiet (fail)
                    go_wp2;go_meet;refine⟨false,rfl,⟨fun _=>?_,fun _=>rfl⟩,_,rfl⟩;rw[xK.out];simp[Vz]
                   ·have enn:(nn !=0)=true:=by simp;omega
                    exact QGK
                  ·have ep4:(p4==0)=false:=by simp;omega
                   exact QGK
                 ·have ep3:(p3==0)=false:=by simp;omega
                  exact QGK
                ·have ep2:(p2==0)=false:=by simp;omega
                 exact QGK
               ·have ep1:(p1==0)=false:=by simp;omega
                exact QGK
              ·have ep0:(p0==0)=false:=by simp;omega
               exact QGK
             ·have eue:(ue==g)=false:=by simp;omega
              exact QGK
            ·have eud:(ud==d)=false:=by simp;omega
             exact QGK
           ·have euc:(uc==c)=false:=by simp;omega
            exact QGK
          ·have eub:(ub==b)=false:=by simp;omega
           exact QGK
         ·have eua:(ua==a)=false:=by simp;omega
          exact QGK
        ·have i1:¬((out.length:Nat):Int)=1:=by omega
         have i2:(((out.length:Nat):Int) !=1)=true:=by simpa using i1
         go_wp2
         go_quiet (fail)
         go_wp2;go_meet;refine⟨true,rfl,?_,_,rfl⟩;rw[xK.out];simp;intro h;rw[h]at hl1;simp at hl1
       case rest=>
        obtain⟨ok,rfl,hok,nq,hwx⟩:=hcut;have HZ9:=Zy (show Ri w wc a b c d g (.slice va vn vc) (Xu ⟨a,b,c,d,g⟩) by rw[hwx];exact HZ.below (below_drewN (ZH _ _) nq));clear hwx;rcases ok with _|_
        ·have ho:=hok.1 rfl
         go_wp2;go_ret2
         refine⟨.slice va vn vc,by rw[HE.out.2,if_pos ho];rfl,by rw[HE.out.1,if_pos ho];exact HZ9.out.own.mono QQ,HZ9.out.Xw⟩
        ·have ho:¬xQ ⟨a,b,c,d,g⟩=true:=fun h=>by cases hok.2 h
         go_wp2;go_ret2
         refine⟨.slice none 0 0,by rw[HE.out.2,if_neg ho];rfl,by rw[HE.out.1,if_neg ho];exact Own.nil _ _ _,HZ9.out.Xw⟩
 ·by_cases h1:a<0
  ·have HE:=Zy (show Md ⟨a,b,c,d,g⟩=[]/\oz ⟨a,b,c,d,g⟩=1 by unfold Md oz;constructor<;>rw[if_pos QY])
   exact QH4
  ·have h2:999<a:=by omega
   have h3:0<=a:=QQ;have HE:=Zy (show Md ⟨a,b,c,d,g⟩=[]/\oz ⟨a,b,c,d,g⟩=1 by unfold Md oz;constructor<;>rw[if_pos QY]);exact QH4
theorem qm(w0 w:World)(B K:Nat)(S:SS)(G:Nat->Prop)(qb:Bool)(h:UU w0 w B S G)(hI:Xz K S)(hq:qb=VF S):
  Calls Tryz.prog 15 #[.pointer (some ⟨B,0,none⟩)] w fun e w'=>e=.returned (.bool qb)/\Below w.heap.size w w':=by
 have He:=Zy (VX w0 w B K S G h hI);have HQ:=Zy hq;clear h hI hq;go_enter Tryz.func15,Tryz.ntmps15
 go_wp2_with fail
 refine He.out.mono ?_;intro e w5 h5;obtain⟨rs,v,r,lv,rr,rfl,hrs,KQ,hb5⟩:=h5.hid;have hlen:rs.length=44:=by rw[hrs];exact VY KQ.lr
 have hone:∀x∈rs,x.oneCell'=true:=by rw[hrs];exact KQ.one
 have kz:=(Vy (w:=w5) rfl).setCells 0 rs;rw[V5 (by rw[Wm,hlen])]at kz;have Jp:Below w5.heap.size w5 ((w5.alloc YS).setCells w5.heap.size 0 rs):=below_setCells (ZB _) rs 0 (ZR w5 YS);obtain⟨-,-,y2,y3,y4,y5,y6,y7,-,-,-,-,-,-,y40,-,-,-⟩:=LkB.of kz hrs KQ.lr;have HLEN:=Zy hlen;have Qya:=Zy hone;have HBB:=Zy (hb5.trans (Jp.mono hb5.size));clear hb5 kz Jp hlen hone KQ h5 hrs He;go_upto_region 2 with((with_reducible show wpList _ _ _ (⟨none,Op.store 53 _ _,_,_,_,_⟩::_) _ _);refine BU (w:=w5.alloc YS) (B:=w5.heap.size) (Vy rfl) rfl _ _ rfl rfl rs rfl HLEN.out Qya.out ?_;generalize(w5.alloc YS).setCells w5.heap.size 0 rs=w9 at *)
 by_cases hm:S.mode=0
 ·have hq2:qb=(decide (S.part=CZ)&&!S.over):=by rw[HQ.out];unfold VF;rw[hm];rfl
  rw[hm]at y2;have hp:(S.part=CZ)\/S.part.a≠0\/(S.part.a=0/\S.part.b≠0)\/(S.part.a=0/\S.part.b=0/\S.part.c≠0)\/(S.part.a=0/\S.part.b=0/\S.part.c=0/\S.part.d≠0)\/(S.part.a=0/\S.part.b=0/\S.part.c=0/\S.part.d=0/\S.part.e≠0):=by
   generalize S.part=p;obtain⟨a,b,c,d,e⟩:=p;dsimp only;by_cases ha:a=0
   ·by_cases hb:b=0
    ·by_cases hc:c=0
     ·by_cases hd:d=0
      ·by_cases he:e=0
       ·subst ha hb hc hd he;exact .inl rfl
       ·simp[ha,hb,hc,hd,he]
      ·simp[ha,hb,hc,hd]
     ·simp[ha,hb,hc]
    ·simp[ha,hb]
   ·simp[ha]
  have Rs:=Zy hq2;clear hq2 hm HQ;rcases hp with h|h
  ·have hq3:qb=!S.over:=by rw[Rs.out,h];rfl
   have ea:S.part.a=0:=by rw[h];rfl
   have eb:S.part.b=0:=by rw[h];rfl
   have ec:S.part.c=0:=by rw[h];rfl
   have ed:S.part.d=0:=by rw[h];rfl
   have ee:S.part.e=0:=by rw[h];rfl
   rw[ea]at y3;rw[eb]at y4;rw[ec]at y5;rw[ed]at y6;rw[ee]at y7;clear h ea eb ec ed ee Rs;generalize S.over=ov at *;subst hq3;cases ov
   all_goals
    exact QLE
  ·have hq3:qb=false:=by
    rw[Rs.out];have:S.part≠CZ:=by
     intro e;rw[e]at h;simp[CZ]at h
    simp[this]
   subst hq3;clear Rs;generalize S.part.a=pa at *;generalize S.part.b=pb at *;generalize S.part.c=pc at *;generalize S.part.d=pd at *;generalize S.part.e=pe at *;generalize S.over=ov at *;rcases h with h|⟨rfl,h⟩|⟨rfl,rfl,h⟩|⟨rfl,rfl,rfl,h⟩|⟨rfl,rfl,rfl,rfl,h⟩
   all_goals
    have e1:∀x:Int,x≠0->(x==0)=false:=fun x hx=>by simpa using hx
    have e2:=e1 _ h;clear h e1;exact QLE
 ·have hf:qb=false:=by rw[HQ.out];unfold VF;simp[hm]
  subst hf;have e:(S.mode==0)=false:=by simpa using hm
  clear hm HQ;generalize S.mode=md at *;exact QLE
theorem QX1(c:Int)(w:World):Calls Tryz.prog 52 #[.int .i64 c] w fun e w'=>e=.returned (.bool (!Nj c))/\w=w':=by
 go_enter Tryz.func52,Tryz.ntmps52
 go_wp2
 all_goals
  go_ret;exact⟨Xg (by rw[Bool.eq_iff_iff];simp[Nj, *]),rfl⟩
theorem dG(a:Option Addr)(n c:Nat)(l:List Int)(w:World)(hx:Ints w a l)(hn:l.length=n)(hl:n<=1048576):
  Calls Tryz.prog 27 #[.slice a n c,.func (.func 52) #[] #[]] w fun e w'=>∃r:Int,e=.returned (.int .i64 r)/\decide (0<=r)=!l.all Nj/\w=w':=by
 have HX:=Zy hx;have HN:=Zy hn;clear hx hn;go_enter Tryz.func27,Tryz.ntmps27
 go_wp2
 go_loopw [8] (fun i wr=>∃k:Nat,i=.int .i64 (k:Int)/\k<=n/\(∀j,j<k->Nj (ix l j)=true)/\w=wr) (fun i _=>n-(intOf i).toNat)
 case atStart=>exact⟨0,rfl,QQ,fun j hj=>QQ,rfl⟩
 case round=>
  obtain⟨k,rfl,hk,hno,rfl⟩:=hrel;have JM:=Zy hno;clear hno;by_cases hlt:k<n
  ·have hkl:k<l.length:=by rw[HN.out];exact hlt
   obtain⟨b1,o1,rfl,hc⟩:=HX.out.at hkl;have c0:=hc k hkl;have i0:(0:Int)<=(k:Int):=QQ;have i1:(k:Int)<(n:Int):=QQ;obtain⟨t,ht⟩:∃t,t=Nj (ix l k):=⟨_,rfl⟩;have HC:=Zy (QX1 (ix l k) w);rw[<-ht]at HC;have HT:=Zy ht;clear hc ht;cases t with
   | true=>
    go_wp2_with (go_at_call 52;go_loud (refine(HC.out).mono ?_;rintro e w3 ⟨rfl,rfl⟩))
    exact QIL
   | false=>
    go_wp2_with (go_at_call 52;go_loud (refine(HC.out).mono ?_;rintro e w3 ⟨rfl,rfl⟩))
    go_ret;refine⟨_,rfl,?_,rfl⟩;have h1:l.all Nj=false:=List.all_eq_false.2 ⟨l[k],YQ hkl,by rw[<-Ya hkl,<-HT.out];decide⟩;rw[h1];simp
  ·have hno:¬(k:Int)<(n:Int):=by omega
   go_wp2;go_ret;refine⟨_,rfl,?_,rfl⟩;have h1:l.all Nj=true:=List.all_eq_true.2 fun x hx=>by
    obtain⟨j,hj,rfl⟩:=XN.1 hx;have:=JM.out j QEV;rw[Ya hj]at this;exact this
   rw[h1];rfl
theorem SE(a:Option Addr)(n c:Nat)(l:List Int)(w:World)(hx:Ints w a l)(hn:l.length=n)(hl:n<=1048576)(b:Bool)(hb:b=l.all Nj):
  Calls Tryz.prog 32 #[.slice a n c] w fun e w'=>e=.returned (.bool b)/\w=w':=by
 have HI:=Zy (dG a n c l w hx hn hl);have HC:=Zy (show Calls Tryz.prog 9 #[.slice a n c,.func (.func 52) #[] #[]] w fun e w'=>e=.returned (.bool (!b))/\w=w' from by
  have HB:=Zy hb;clear hx hn hb;go_enter Tryz.func9,Tryz.ntmps9
  go_wp2_with (go_at_call 27;go_loud (refine(HI.out).mono ?_;rintro e w3 ⟨r,rfl,hr,rfl⟩))
  go_ret;exact⟨Xg (by rw[HB.out]),rfl⟩)
 clear hx hn hb HI;go_enter Tryz.func32,Tryz.ntmps32
 go_wp2_with (go_at_call 9;go_loud (refine(HC.out).mono ?_;rintro e w3 ⟨rfl,rfl⟩))
 go_ret;exact⟨rfl,rfl⟩
structure Mv (G:Nat->Prop) (w:World) (G':Nat->Prop) (w':World):Prop where
 size:w.heap.size<=w'.heap.size
 block:∀k,k<w.heap.size->¬G k->w'.heap[k]? =w.heap[k]?
 sub:∀k,G' k->G k\/w.heap.size<=k
theorem Mv.below{G:Nat->Prop}{w w':World}(h:Below w.heap.size w w'):Mv G w G w':=⟨h.size,fun k hk _=>h.block k hk,fun k hk=>.inl hk⟩
theorem Mv.step{G:Nat->Prop}{w w':World}(h:Step G w w'):Mv G w (Gx G w w') w':=⟨h.size,h.block,fun k hk=>by rcases hk with hk|hk;exact .inl hk;exact .inr hk.1⟩
theorem Mv.trans{G G1 G2:Nat->Prop}{w w1 w2:World}(h:Mv G w G1 w1)(g:Mv G1 w1 G2 w2):Mv G w G2 w2:=
 ⟨Zf h.size g.size,fun k hk hn=>(g.block k (Zc hk h.size) (fun e=>by rcases h.sub k e with e|e;exact hn e;omega)).trans (h.block k hk hn),fun k hk=>by
  rcases g.sub k hk with e|e
  ·exact h.sub k e
  ·have:=h.size;exact .inr QQ⟩
theorem UI.more{N used PO:Nat}{most:Int}{S:SS}{l:List (Int×List Int)}{m:List Int}(h:UI N used most S l m)(hu:used<=PO):UI N PO most S l m:=by
 obtain⟨K,h1,h2,h3⟩:=h.inv;exact {h with inv:=⟨K,h1,QQ,h3⟩}
theorem UI.wide{N N' used:Nat}{most:Int}{S:SS}{l:List (Int×List Int)}{m:List Int}(h:UI N used most S l m)(hN:N<=N'):UI N' used most S l m:=by
 obtain⟨K,h1,h2,h3,h4⟩:=h.inv;exact {h with inv:=⟨K,h1,h2,Zf h3 (Nat.mul_le_mul (ZB _) QQ),h4⟩}
def uk(w0 w:World)(B:Nat)(S:SS)(G:Nat->Prop)(v:Value):Prop:=∃F f,HF F G w B f S/\f 56=v/\(∀k,G k->w0.heap.size<=k)/\Below w0.heap.size w0 w
theorem uk.live{w0 w:World}{B:Nat}{S:SS}{G:Nat->Prop}{v:Value}(h:uk w0 w B S G v):UU w0 w B S G:=by
 obtain⟨F,f,h1,-,h2,h3⟩:=h;exact⟨F,f,h1,h2,h3⟩
theorem UU.iZ{w0 w:World}{B:Nat}{S:SS}{G:Nat->Prop}(h:UU w0 w B S G):∃v,uk w0 w B S G v:=by
 obtain⟨F,f,h1,h2,h3⟩:=h;exact⟨_,F,f,h1,rfl,h2,h3⟩
theorem uk.below{w0 w w':World}{B:Nat}{S:SS}{G:Nat->Prop}{v:Value}(h:uk w0 w B S G v)(hb:Below w.heap.size w w'):uk w0 w' B S G v:=by
 obtain⟨F,f,h1,h4,h2,h3⟩:=h;exact⟨F,f,h1.other (fun k hk=>hb.block k (h1.lt k hk)) hb.size,h4,h2,h3.trans (hb.mono h3.size)⟩
def LvE(W w0:World)(B:Nat)(S:SS)(G:Nat->Prop)(v:Value)(b:ByteArray)(N used:Nat)(most:Int)(l:List (Int×List Int))(m:List Int)(w:World)(e:Ending)(w':World):Prop:=
 ∃G' a n c us a2 n2 c2,uk w0 w' B (S.feed W b).1 G' (.slice a n c)/\Mv G w G' w'/\UI N (used+b.size) most (S.feed W b).1 (l++(S.feed W b).1.told) (m++(S.feed W b).1.Yv)/\
  e=.returned (.tuple #[.slice a n c,.slice a2 n2 c2,.int .i64 0])/\Xd 33 w0.heap.size w' (.slice a n c) us/\xC G' w' us (S.feed W b).1.told/\(S.feed W b).1.told.length=n/\n<=1099513724928/\
  ∀k,v.ownBlock=some k->w'.heap[k]? =w.heap[k]?
theorem ym(W w0 w:World)(B N used:Nat)(most:Int)(S:SS)(G:Nat->Prop)(v:Value)(b:ByteArray)(l:List (Int×List Int))(m:List Int)(h:uk w0 w B S G v)(hI:UI N used most S l m)(hN:used+b.size<=N)(hNb:N<=1048576)(h0:(S.feed W b).2=0):
  Calls Tryz.prog 18 #[.pointer (some ⟨B,0,none⟩),.string b] w (LvE W w0 B S G v b N used most l m w):=by
 obtain⟨F,f,h1,rfl,h2,h3⟩:=h;obtain⟨K,i1,i2,i3,i4⟩:=hI.inv;refine(IA W F G B K S b w f h1 i1 hI.pend QQ).mono ?_;rintro e w' ⟨⟨F',f',hA,hr⟩,hkeep⟩;have hz:=hA.step.size;have hI':=hI.step (W:=W) b hN h0;obtain⟨K6,-,k2,k3,-⟩:=hI'.inv;have hge:∀k,Gx G w w' k->w0.heap.size<=k:=fun k hk=>by
  rcases hk with hk|hk
  ·exact h2 k hk
  ·have:=h3.size;omega
 rcases hr with⟨-,he⟩|hr
 ·obtain⟨us,ho,hev⟩:=hA.hf.m.told
  have jZ:=hA.hf.m.Yv;have htb:=hA.hf.m.Yi;obtain⟨a,n,c,e1⟩:=ho.form;obtain⟨a2,n2,c2,e2⟩:=jZ.form;rw[e1]at ho htb;rw[e1,e2]at he;obtain⟨p1,-,-,p4,-⟩:=ho.bM.get;have hmul:K6*(N+2)<=1048576*1048578:=Nat.mul_le_mul QQ QQ;have hlen:(S.feed W b).1.told.length=n:=by rw[<-hev.1];exact p1
  rw[ZN]at k3;refine⟨Gx G w w',a,n,c,us,a2,n2,c2,⟨F',f',hA.hf,e1,hge,⟨hA.step.os.trans h3.os,hA.step.tape.trans h3.tape,hA.step.output.trans h3.output,Zf h3.size hz,fun k hk=>?_⟩⟩,Mv.step hA.step,hI',he,⟨ho.1,by
    rcases ho.2 with q|⟨g,cap,cur,q1,q2,q3⟩
    ·exact .inl q
    ·exact .inr ⟨g,cap,cur,q1,hge g (htb g (by rw[q1];rfl)).2,q3⟩⟩,hev.keep (Xv.refl _ _) hA.hf.fg,hlen,by omega,hkeep⟩
  rw[hA.step.block k (Zc hk h3.size) (fun e=>by have:=h2 k e;omega)];exact h3.block k hk
 ·exact absurd h0 hr.1
def ChR(W:World)(S:SS)(c:C5)(l:List Int)(T:SS)(t:ByteArray):Prop:=
 xQ c=true/\qF (Xu c)=true/\Km c/\Gr c=true/\l.all Nj=true/\(S.feed W (runesBytes (Xu c))).1.told=[]/\
  ((
   (S.feed W (runesBytes (Xu c))).1.mode=0/\T=(S.feed W (runesBytes (Xu c))).1/\t=runesBytes (Xu c))\/
   ((S.feed W (runesBytes (Xu c))).1.mode≠0/\qF l=true/\(runesBytes l).size<=1000/\T=((S.feed W (runesBytes (Xu c))).1.feed W (runesBytes l++⟨#[27]⟩)).1/\T.told=[]/\t=runesBytes (Xu c)++runesBytes l++⟨#[27]⟩))
theorem ChR.chd{W:World}{K:Nat}{S T:SS}{c:C5}{l:List Int}{t:ByteArray}(hI:Xz K S)(hP:yJ S.pend)(hq:VF S=true)(h:ChR W S c l T t):Chd S T:=by
 obtain⟨h1,h2,h3,h4,h5,h6,h7⟩:=h;obtain⟨g1,g2⟩:=EE (W:=W) hI hP hq h1 h2 h3 h4;obtain⟨g4,g5,g2⟩:=g2;have g3:=g2 h6;rcases h7 with⟨-,rfl,-⟩|⟨a1,a2,a3,rfl,-,-⟩
 ·exact g3
 ·have hs:(runesBytes l++(⟨#[27]⟩:ByteArray)).size<=4096:=by
   rw[ByteArray.size_append];have:(⟨#[27]⟩:ByteArray).size=1:=rfl;omega
  exact(Oo (W:=W) (by rcases g5 with g5|g5|g5;exact absurd g5 a1;exact .inl g5;exact .inr g5) g4 g3 a2 h5 hs).2
def kg(W w0:World)(B N used:Nat)(most:Int)(S:SS)(G:Nat->Prop)(c:C5)(l:List Int)(w:World)(e:Ending)(w':World):Prop:=
 ∃t b,e=.returned (.tuple #[.string t,.bool b])/\Below w0.heap.size w0 w'/\
  (b=true->∃T G' lt mt,UU w0 w' B T G'/\Mv G w G' w'/\UI N (used+1040) most T lt mt/\ChR W S c l T t/\VF T=true)
theorem kg.no{W w0:World}{B N used:Nat}{most:Int}{S:SS}{G:Nat->Prop}{c:C5}{l:List Int}{w w':World}{t:ByteArray}(h:Below w0.heap.size w0 w'):kg W w0 B N used most S G c l w (.returned (.tuple #[.string t,.bool false])) w':=
 ⟨t,false,rfl,h,fun e=>QDk⟩
theorem lh{W:World}{K:Nat}{S:SS}{c:C5}(hI:Xz K S)(hP:yJ S.pend)(hq:VF S=true)(hw:oz c=0)(hok:qF (Md c)=true)(hch:Gr c=true):
  xQ c=true/\Km c/\Md c=Xu c/\(S.feed W (yC (Md c))).2=0/\(S.feed W (yC (Md c))).1.over=false/\yC (Md c)=runesBytes (Xu c)/\(runesBytes (Xu c)).size<=32:=by
 unfold oz at hw;by_cases h1:c.a<0\/999<c.a
 ·rw[if_pos h1]at hw;cases hw
 ·rw[if_neg h1]at hw
  by_cases h2:xQ c=true
  ·have e:Md c=Xu c:=by unfold Md;rw[if_neg h1,if_pos h2]
   rw[e]at hok ⊢;have hc:Km c:=⟨QQ,QQ⟩;have ht:yC (Xu c)=runesBytes (Xu c):=by unfold yC;rw[if_pos hok]
   rw[ht];have hcf:=EE (W:=W) hI hP hq h2 hok hc hch;refine⟨h2,hc,rfl,hcf.1,hcf.2.1,rfl,?_⟩;have:=runesBytes_size_le (Xu c);have:=xF c;omega
  ·rw[if_neg h2]at hw;cases hw
end Go.Proofs.YtmdnepkekekncaaGreat
