/- joined, no condition of its own. -/
import Derived.Test.YtmdnepkekekncaaGreatJfJ37
set_option linter.unusedVariables false
set_option linter.unusedSimpArgs false
set_option maxRecDepth 100000
set_option maxHeartbeats 12000000
namespace Go.Proofs.YtmdnepkekekncaaGreat
open Go.RowKit
theorem Nt{xs:List Int}{p mode key b:Int}(h:200<xs.length):JV xs p mode key b=([],0,2):=by unfold JV;rw[if_pos h]
theorem iK{xs:List Int}{p mode key b:Int}(h:xs.length<=200)(h2:p<0\/(xs.length:Int)<p\/(mode≠1/\mode≠2)):JV xs p mode key b=([],0,1):=by unfold JV;rw[if_neg QQ,if_pos h2]
theorem IE{xs:List Int}{p mode key:Int}(h:200<xs.length):¬U8 xs p mode key:=fun h'=>by have:=h'.1;omega
theorem Su{xs:List Int}{p mode key:Int}(h2:p<0\/(xs.length:Int)<p\/(mode≠1/\mode≠2)):¬U8 xs p mode key:=fun h'=>by
 obtain⟨_,h3,h4,h5,_⟩:=h';omega
theorem Bo(a:Option Addr)(n c:Nat)(xs:List Int)(p mode key:Int)(w:World)(hn:xs.length=n)(h:200<n)(h3:n<=9223372036854775807):
  Calls Tryz.prog 84 #[.agg #[.slice a n c,.int .i64 p],.int .i64 mode,.int .i64 key] w (Y3 True (KL xs false p) xs p mode key w):=by
 have HK:=Zy (Nt (xs:=xs) (p:=p) (mode:=mode) (key:=key) (b:=0) QQ);have HU:=Zy (IE (xs:=xs) (p:=p) (mode:=mode) (key:=key) QQ);have hb:=Zo w (.cells #[.slice a n c,.int .i64 p] 42) (.cells #[.slice none 0 0,.int .i64 0] 42);have hA:=Za.new (w.alloc (.cells #[.slice a n c,.int .i64 p] 42)) #[.slice none 0 0,.int .i64 0] 42;rw[Zu]at hA;obtain⟨y0,y1,-,-⟩:=hA.two;clear hn;go_enter Tryz.func84,Tryz.ntmps84
 go_wp2;refine ZC (v:=.tuple #[.agg #[.slice none 0 0,.int .i64 0],.int .i64 2]) QA rfl ?_;exact Y3.of HK.out (fun h=>absurd h HU.out) (.inl rfl) rfl QQ hb
theorem Gn(a:Option Addr)(n c:Nat)(xs:List Int)(p mode key:Int)(w:World)(hn:xs.length=n)(h:n<=200)(hbad:p<0\/(n:Int)<p\/(mode≠1/\mode≠2)):
  Calls Tryz.prog 84 #[.agg #[.slice a n c,.int .i64 p],.int .i64 mode,.int .i64 key] w (Y3 True (KL xs false p) xs p mode key w):=by
 have HK:=Zy (iK (xs:=xs) (p:=p) (mode:=mode) (key:=key) (b:=0) QQ (by rw[hn];exact hbad));have HU:=Zy (Su (xs:=xs) (p:=p) (mode:=mode) (key:=key) (by rw[hn];exact hbad));have hb:=Zo w (.cells #[.slice a n c,.int .i64 p] 42) (.cells #[.slice none 0 0,.int .i64 0] 42);have hA:=Za.new (w.alloc (.cells #[.slice a n c,.int .i64 p] 42)) #[.slice none 0 0,.int .i64 0] 42;rw[Zu]at hA;obtain⟨y0,y1,-,-⟩:=hA.two;clear hn;by_cases e1:p<0
 ·clear hbad
  exact QG7
 ·by_cases e2:(n:Int)<p
  ·clear hbad
   exact QG7
  ·obtain⟨m1,m2⟩:mode≠1/\mode≠2:=by omega
   have g1:(mode !=1)=true:=by simpa using m1
   have g2:(mode !=2)=true:=by simpa using m2
   clear hbad;exact QG7
theorem mX(a:Option Addr)(n c:Nat)(xs:List Int)(p mode key:Int)(w:World)(ha:Ints w a xs)(hn:xs.length=n)(hc:n<=c)(hc2:c<=9223372036854775807)(h0:a=none->c=0):
  Calls Tryz.prog 84 #[.agg #[.slice a n c,.int .i64 p],.int .i64 mode,.int .i64 key] w (Y3 True (KL xs false p) xs p mode key w):=by
 by_cases h1:200<n
 ·exact Bo a n c xs p mode key w hn h1 QQ
 ·by_cases h2:p<0\/(n:Int)<p\/(mode≠1/\mode≠2)
  ·exact Gn a n c xs p mode key w hn QQ h2
  ·obtain⟨q,rfl⟩:=Zw (show 0<=p from QQ)
   rcases a with _|ad
   ·obtain rfl:c=0:=h0 rfl
    obtain rfl:n=0:=QQ;obtain rfl:xs=[]:=ZM hn;obtain rfl:q=0:=QQ;exact Gm mode key w QQ
   ·exact Dv ad n c q xs mode key w ha hn hc hc2 QQ QQ QQ
theorem Dx(lv:Value)(most Zm:Int)(sv pv:Value)(older:Bool)(ls:List (List Int))(M W:Int)(XU pat:List Int)(O:Bool)(a:Option Addr)(nn c:Nat)(w:World)(r:Wh w lv most Zm sv pv older ⟨ls,M,W,XU,pat,O⟩)(xs:List Int)(hE:jF ⟨ls,M,W,XU,pat,O⟩=0)(hx:Ints w a xs)(Jq:xs.length=nn)(hx0:a=none->nn=0)(hnn:nn<=200)(h0:0<nn):
  Calls Tryz.prog 81 #[.agg (X7 lv most Zm sv pv older),.slice a nn c] w (Mc (fun k=>w.heap.size<=k) (qj ⟨ls,M,W,XU,pat,O⟩ xs) 0 w):=by
 have hok:=qK hE;have HE:=Zy hE;have Jf:=Zy r;have hm1:1<=M:=hok.LD;have hm2:M<=50:=hok.UQ;have hlm:(ls.length:Int)<=M:=hok.len;have kR:=Zy Jq;have HX0:=Zy hx0;have Pv:=Zy hok.lines;have nG:=Zy hok.XU;have nI:=Zy hok.pat;clear hE hok Jq hx0;obtain⟨⟨vs,hvs,hls⟩,h1,h2,Xr,Xt,h3⟩:=r;simp only at hls h1 h2 h3 Xr Xt;obtain rfl:M=most:=h1.symm;obtain rfl:W=Zm:=h2.symm;obtain rfl:O=older:=h3.symm;obtain⟨la,ln,lc,rfl,hl1,hl2,hl3,hl4,hl5⟩:=hvs;obtain⟨sa,sn,sc,rfl,hs1,hs2,hs3,hs4,hs5⟩:=Xr;obtain⟨pa,pn,pc,rfl,hp1,hp2,hp3,xJ,UC⟩:=Xt;have hll:ls.length=ln:=Qq;have Wv:=Zy (fun W' r=>VO (.slice la ln lc) M W (.slice sa sn sc) (.slice pa pn pc) O ⟨ls,M,W,XU,pat,O⟩ W' r);have kS:=Zy (fun W' r=>Kh (.slice la ln lc) M W (.slice sa sn sc) (.slice pa pn pc) O ⟨ls,M,W,XU,pat,O⟩ W' r (by show ls.length<=50;omega) Pv.out nG.out nI.out);rw[hll]at hlm;obtain⟨n,rfl⟩:∃n:Nat,M=(n:Int):=⟨M.toNat,QQ⟩;have hn1:1<=n:=QQ;have QYo:n<=50:=QQ;have QvE:ln<=n:=QQ;have OU:nn<=17592186044416:=QQ;clear hm1 hm2 hlm;have uh:=Zy hll;unfold X7 at *;have hB:=(Za.new w #[.slice la ln lc,.int .i64 (n:Int),.int .i64 W,.slice sa sn sc,.slice pa pn pc,.bool O] 85).alloc (.cells #[.slice none 0 0,.int .i64 0,.int .i64 0,.slice none 0 0,.slice none 0 0,.bool false] 85);have hR:=Za.new (w.alloc (.cells #[.slice la ln lc,.int .i64 (n:Int),.int .i64 W,.slice sa sn sc,.slice pa pn pc,.bool O] 85)) #[.slice none 0 0,.int .i64 0,.int .i64 0,.slice none 0 0,.slice none 0 0,.bool false] 85;rw[Zu]at hR;have hacc:=Zo w (.cells #[.slice la ln lc,.int .i64 (n:Int),.int .i64 W,.slice sa sn sc,.slice pa pn pc,.bool O] 85) (.cells #[.slice none 0 0,.int .i64 0,.int .i64 0,.slice none 0 0,.slice none 0 0,.bool false] 85);have hsz:w.heap.size+2<=((w.alloc (.cells #[.slice la ln lc,.int .i64 (n:Int),.int .i64 W,.slice sa sn sc,.slice pa pn pc,.bool O] 85)).alloc (.cells #[.slice none 0 0,.int .i64 0,.int .i64 0,.slice none 0 0,.slice none 0 0,.bool false] 85)).heap.size:=QJ;have HR1:=Zy (Jf.out.below hacc);clear hs1 hp1 hl1 hl5 hs5 UC hll hls Jf;go_enter Tryz.func81,Tryz.ntmps81
 go_upto_region 1 with fail
 change Code.wp _ _ _ _ ((w.alloc (.cells #[.slice la ln lc,.int .i64 (n:Int),.int .i64 W,.slice sa sn sc,.slice pa pn pc,.bool O] 85)).alloc (.cells #[.slice none 0 0,.int .i64 0,.int .i64 0,.slice none 0 0,.slice none 0 0,.bool false] 85));generalize((w.alloc (.cells #[.slice la ln lc,.int .i64 (n:Int),.int .i64 W,.slice sa sn sc,.slice pa pn pc,.bool O] 85)).alloc (.cells #[.slice none 0 0,.int .i64 0,.int .i64 0,.slice none 0 0,.slice none 0 0,.bool false] 85))=w1 at *;obtain⟨c0,c1,c2,c3,c4,c5⟩:=hB.six;go_wp2_with ((go_at_call 117);refine(Wv.out _ HR1.out).mono ?_;rintro e wc ⟨rfl,hb2⟩;rw[HE.out];have hB2:=hB.below hb2 hB.lt;obtain⟨d0,d1,d2,d3,d4,d5⟩:=hB2.six;have hR2:=hR.below hb2 hR.lt;obtain⟨p0,p1,p2,p3,p4,p5⟩:=hR2.six;obtain⟨t0,t1,t2,t3,t4,t5⟩:=hR2.YA;have Z0:=ZE hacc QQ hb2;have hlt2:=hB2.lt;have hz2:=hb2.size;have HR2:=Zy (HR1.out.below hb2))
 refine(kS.out _ HR2.out).mono ?_;rintro e w2 ⟨tX,rq,rP,vs2,rfl,ho2,zz,os2,FT,hb3⟩;obtain⟨ra,rn,rc,rfl⟩:=ho2.form;obtain⟨ta,tn,tc,rfl⟩:=os2.form;obtain⟨ua,un,uc,rfl⟩:=FT.form;have Ji:=ZE Z0 QQ hb3;have hB3:=hB2.below hb3 hB2.lt;have Wx:=hR2.below hb3 hR2.lt;have hz3:=hb3.size;have iO:=ho2.mono (base':=w.heap.size+2) QQ;have Lg:=zz.imp (base':=w.heap.size+2) fun _ _ k=>k.mono QQ
 have gD:=FT.mono (base':=w.heap.size+2) QQ;have yj:=Zy iO;have Cz:=Zy Lg;have nL:=Zy gD;simp only[X7];clear ho2 zz os2 FT iO Lg gD c0 c1 c2 c3 c4 c5 d0 d1 d2 d3 d4 d5 p0 p1 p2 p3 p4 p5 t0 t1 t2 t3 t4 t5;have hN3:=Za.new w2 #[.slice ra rn rc,.int .i64 (n:Int),.int .i64 W,.slice ta tn tc,.slice ua un uc,.bool O] 85;have hk3:=ZR w2 (.cells #[.slice ra rn rc,.int .i64 (n:Int),.int .i64 W,.slice ta tn tc,.slice ua un uc,.bool O] 85);have Ex:(w2.alloc (.cells #[.slice ra rn rc,.int .i64 (n:Int),.int .i64 W,.slice ta tn tc,.slice ua un uc,.bool O] 85)).heap.size=w2.heap.size+1:=QJ;have hB4:=hB3.alloc (.cells #[.slice ra rn rc,.int .i64 (n:Int),.int .i64 W,.slice ta tn tc,.slice ua un uc,.bool O] 85);have hR4:=Wx.alloc (.cells #[.slice ra rn rc,.int .i64 (n:Int),.int .i64 W,.slice ta tn tc,.slice ua un uc,.bool O] 85);go_upto_region 7 with fail
 change Code.wp _ _ _ _ (w2.alloc (.cells #[.slice ra rn rc,.int .i64 (n:Int),.int .i64 W,.slice ta tn tc,.slice ua un uc,.bool O] 85));generalize(w2.alloc (.cells #[.slice ra rn rc,.int .i64 (n:Int),.int .i64 W,.slice ta tn tc,.slice ua un uc,.bool O] 85))=w3 at *;have VR:=ZE Ji QQ hk3;obtain⟨c0,c1,c2,c3,c4,c5⟩:=hB4.six;go_wp2_with fail
 refine(SQ n hn1 QQ w3).mono ?_;rintro e w4 ⟨p,g,rfl,hring,hp3,hg3,hb4⟩;have Yw:=ZE VR QQ hb4;have Ta:=hb4.size;have hN4:=hN3.below hb4 hN3.lt;have JR:=hB4.below hb4 hB4.lt;have KQ:=hR4.below hb4 hR4.lt;have hk4:Below w2.heap.size w2 w4:=ZE hk3 QQ hb4;have HO4:=Zy (yj.out.kept hk4);have HRG:=Zy hring;have hpg:p≠g:=hring.2.2.2.1;have hpl:=hring.1.lt;have hgl:=hring.2.1.lt;have hx4:=hx.below Yw;have hrn:vs2.length=rn:=yj.out.vs.get.1;have hrl:vs2.length=ls.length:=Cz.out.1;have QU7:rn=ln:=by rw[<-uh.out];omega
 have QWN:=Zy (show vs2.length=ln from QQ);have QAb:=Zy QU7;have Qvk:rn<=n:=QQ;clear hring hrn hrl QU7 c0 c1 c2 c3 c4 c5 JR;obtain⟨n0,n1,n2,n3,n4,n5⟩:=hN4.six;go_upto_region 9 with fail
 have QZ2:∀a n c,MH [Value.slice a n c]:=fun a n c i hi=>by
  obtain rfl:i=0:=QS;exact⟨a,n,c,rfl⟩
 have QyB:=Zy QZ2;have HLEN:=Zy (show vs2.length+1<=4398046511104 by rw[QWN.out];omega);clear QZ2
 first
 | go_region_law (first|(go_simp;go_at_call 31;((with_reducible refine(XY a nn c xs w4.drew hx4.drew kR.out OU HX0.out).mono ?_));rintro e w5 ⟨v5,rfl,QYK,hb5⟩;obtain⟨a5,n5',aH,rfl⟩:=QYK.form;have hN5:=hN4.drew.below hb5 hN4.lt;obtain⟨f0,f1,f2,f3,f4,f5⟩:=hN5.six;obtain⟨fa0,fa1,fa2,fa3,fa4,fa5⟩:=(hN5.alloc (.cells #[.slice a5 n5' aH] 22)).six;have bU:=Zy (Xc.kept (w:=w4.drew) (HO4.out.drew) hb5))|(refine FX QDu _ _ rfl (w.heap.size+2) (.slice ra rn rc) vs2 [.slice a5 n5' aH] _ 1 1 rfl rfl (bU.out.alloc _) (JD w5 [.slice a5 n5' aH] _) (QyB.out _ _ _) rfl HLEN.out (by have:=hb5.size;simp at this ⊢;omega) ?_;intro v9 w9 o9 Xm QQx;obtain⟨a9,n9,c9,rfl⟩:=o9.form))
 | fail "region"
 all_goals
  have Tn:Below w4.heap.size w4 w5:=ZE (ZH _ _).drew (ZB _) hb5;have hz6:=Tn.size;have hz7:(w5.alloc (.cells #[.slice a5 n5' aH] 22)).heap.size=w5.heap.size+1:=QJ;have QVq:some p≠(Value.slice ra rn rc).ownBlock:=yj.out.QYk QQ;have QVx:some g≠(Value.slice ra rn rc).ownBlock:=yj.out.QYk QQ;have QVz:some w2.heap.size≠(Value.slice ra rn rc).ownBlock:=yj.out.QYk (ZB _);have QVW:some (w.heap.size+1)≠(Value.slice ra rn rc).ownBlock:=yj.out.ne QQ;have QyI:=Zy (show Uy w9 p g n 0 0 (List.replicate n (.slice none 0 0))from⟨((HRG.out.1.below Tn hpl).alloc _).grown Xm QVq,((HRG.out.2.1.below Tn hgl).alloc _).grown Xm QVx,HRG.out.2.2⟩);have hN9:=(hN5.alloc (.cells #[.slice a5 n5' aH] 22)).grown Xm QVz;have Ga:=((KQ.below Tn QQ).alloc (.cells #[.slice a5 n5' aH] 22)).grown Xm QVW;have lK:Below w.heap.size w w9:=((ZE Yw QQ Tn).alloc QQ (.cells #[.slice a5 n5' aH] 22)).grown Xm QQ (fun k hk=>by have:=yj.out.row k hk;omega);have QUt:w5.heap.size+1<=w9.heap.size:=by have:=Xm.size;omega
  have Ej:∀v ys,Own 3 (w.heap.size+2) w2 v ys->Own 3 (w.heap.size+2) w9 v ys:=fun v ys h=>
   ((Own.kept (h.kept hk4) Tn).alloc (.cells #[.slice a5 n5' aH] 22)).beside (bU.out.alloc _) QZ Xm
  have QVL:Own 3 w4.heap.size w9 (.slice a5 n5' aH) xs:=(QYK.alloc (.cells #[.slice a5 n5' aH] 22)).beside (bU.out.alloc _) QZ Xm;have QZy:=Zy (show Yh (fun k=>w.heap.size+2<=k/\k≠w2.heap.size/\k≠p/\k≠g) w9 (vs2++[.slice a5 n5' aH]) (ls++[xs])from
   Yh.append ⟨Cz.out.1,fun i hi=>((Cz.out.2 i hi).Po (Ej _ _ (Cz.out.2 i hi))).imp (fun k hk=>QQ)⟩ (Yh.one (QVL.uX.imp (fun k hk=>QQ))))
  have QyR:=Zy ((nL.out.Po (Ej _ _ nL.out)).imp (Q:=fun k=>w.heap.size+2<=k/\k≠w2.heap.size/\k≠p/\k≠g) (fun k hk=>QQ));have QWa:=Zy (o9.dK.imp (Q:=fun k=>k≠p/\k≠g) (fun k hk=>by
   rcases QQx with h|h
   ·rw[h]at hk;have:=XC yj.out k hk;omega
   ·rw[h]at hk;simp only[ZL]at hk;omega))
  have hn9:n9=ln+1:=by have:=o9.vs.get.1;simp only[ZN,Xq,List.length_nil]at this;have:=QWN.out;omega
  have nN:=Zy (show(vs2++[Value.slice a5 n5' aH]).length=n9 from o9.vs.get.1);have bX:=Zy (show(ls++[xs]).length=n9 by rw[<-QZy.out.1];exact nN.out);have Qyh:=Zy hn9;have QvA:n9<=n+1:=QQ;clear hn9 QQx QYK o9 QVL Ej Xm QVq QVx QVz QVW f0 f1 f2 f3 f4 f5 fa0 fa1 fa2 fa3 fa4 fa5 n0 n1 n2 n3 n4 n5;have QW0:=Zy (show∃al:List Value,vs2++[Value.slice a5 n5' aH]=al from⟨_,rfl⟩);obtain⟨al,hal⟩:=QW0.out;rw[hal]at QZy QWa nN;clear QW0;have HAL:=Zy hal;clear hal;simp only[List.getElem_toArray,List.getElem_cons_succ,List.getElem_cons_zero,Act.put,Zj,Zv,Zk];go_wp2
  go_loopw [36] (fun i wr=>∃k:Nat,i=.int .i64 (k:Int)/\k<=n9/\Hid (nW wr p g n al k)/\jE p g w9 wr/\Below w.heap.size w wr) (fun i _=>n9-(intOf i).toNat)
  case atStart=>exact⟨0,rfl,QQ,.inl ⟨QQ,_,QyI.out,fun i hi=>QQ⟩,jE.refl _ _ _,lK⟩
  case round=>
   obtain⟨k,rfl,hk,HPU,Lm,JL⟩:=hrel;by_cases hlt:k<n9
   ·obtain⟨va,vn,vc,hv1,hv2,hv3,hv4,hv5,hv6,hv7⟩:=QWa.out.keep (w':=wr) (fun q v hq hc=>Lm.cell hq.1 hq.2 hc)
    simp only[Xy]at hv1;obtain⟨rfl,rfl,rfl⟩:=hv1;obtain⟨b1,o1,rfl,hc⟩:=hv5.at (k:=k) (by rw[nN.out];exact hlt);have e1:=hc k (by rw[nN.out];exact hlt);obtain⟨ya,yn,yc,hy⟩:=(QZy.out.2 k QDK).form;rw[hy]at e1;have HY:=Zy hy;clear hc hv2 hv3 hv4 hv5 hv6 hv7 hy;rcases HPU with⟨hkn,slots,hr,hs⟩|⟨hkn,slots,hr,hs0,hs⟩
    ·rcases Z9 k n with hkn'|hkn'
     ·have HS:=Zy hs
      have QUw:place n 0 k=k:=QD4;have bf:=Zy (Ij p n 0 k g ya yn yc wr slots hr QQ hkn' QQ);have HR:=Zy hr;rw[QUw]at bf;clear hs hr QUw;go_wp2_with ((go_at_call 120);refine bf.out.mono ?_;rintro e w' ⟨rfl,q,rfl⟩)
      go_roundw
      case rel=>exact⟨k+1,Qy,QQ,.inl ⟨QQ,_,HR.out.QUv ⟨ya,yn,yc,rfl⟩ q k,fun i hi=>by
       by_cases e:k=i
       ·subst e;rw[YC (by rw[HR.out.2.2.1];exact hkn'),HY.out]
       ·rw[ZP e];exact HS.out i QQ⟩,((Lm.set (a:=⟨g,k,none⟩) (.inr rfl) _).set (a:=⟨p,2,none⟩) (.inl rfl) _).drewN q,below_drewN ((JL.setCell (p:=⟨g,k,none⟩) (by show w.heap.size<=g;omega) _).setCell (p:=⟨p,2,none⟩) (by show w.heap.size<=p;omega) _) q⟩
      case measure=>simp[intOf];omega
     ·obtain rfl:k=n:=by omega
      have HS:=Zy hs;have bf:=Zy (Iy p k 0 g ya yn yc wr slots hr QQ QQ);have HR:=Zy hr;clear hs hr;go_wp2_with ((go_at_call 120);refine bf.out.mono ?_;rintro e w' ⟨rfl,q,rfl⟩)
      go_roundw
      case rel=>exact⟨k+1,Qy,QQ,.inr ⟨rfl,_,HR.out.QUu ⟨ya,yn,yc,rfl⟩ q 0 (place k 0 1),by rw[YC (by rw[HR.out.2.2.1];omega),HY.out],fun i h1 h2=>by
       rw[ZP QQ];exact HS.out i h2⟩,((Lm.set (a:=⟨g,0,none⟩) (.inr rfl) _).set (a:=⟨p,1,none⟩) (.inl rfl) _).drewN q,below_drewN ((JL.setCell (p:=⟨g,0,none⟩) (by show w.heap.size<=g;omega) _).setCell (p:=⟨p,1,none⟩) (by show w.heap.size<=p;omega) _) q⟩
      case measure=>simp[intOf];omega
    ·omega
   ·have hkn:k=n9:=by omega
    subst hkn;obtain⟨f,s,slots,hr,hf,hs,hrv⟩:=HPU.list nN.out hn1;have HRV:=Zy hrv;have HLI:=Zy (NZ p n f s g wr slots hr hf hs QQ);have hNr:=Lm.blk (B:=w2.heap.size) QQ QQ hN9;have hRr:=Lm.blk (B:=w.heap.size+1) QQ QQ Ga;have hzr:wr.heap.size=w9.heap.size:=Lm.1;have HAr:=Zy (QZy.out.imp (Q:=fun k=>w.heap.size+2<=k/\k≠w2.heap.size) (w':=wr) (fun v ys h=>(h.keep (w':=wr) (fun q v hq hc=>Lm.cell hq.2.2.1 hq.2.2.2 hc)).imp (fun k hk=>⟨hk.1,hk.2.1⟩)));have HPr:=Zy ((QyR.out.keep (w':=wr) (fun q v hq hc=>Lm.cell hq.2.2.1 hq.2.2.2 hc)).imp (Q:=fun k=>w.heap.size+2<=k/\k≠w2.heap.size) (fun k hk=>⟨hk.1,hk.2.1⟩));clear hrv hr;go_wp2_with ((go_at_call 121);refine HLI.out.mono ?_;rintro e Hl ⟨v10,rfl,gW,KI⟩;obtain⟨b10,m10,c10,rfl⟩:=gW.form;have QWd:=Zy gW;have QVn:=hNr.below KI hNr.lt;have xh:=hRr.below KI hRr.lt;have QQY:=KI.size;have QY6:=ZE JL QQ KI;clear gW;obtain⟨n0,n1,n2,n3,n4,n5⟩:=QVn.six;obtain⟨m0,m1,m2,m3,m4,m5⟩:=QVn.YA;obtain⟨p0,p1,p2,p3,p4,p5⟩:=xh.six;obtain⟨t0,t1,t2,t3,t4,t5⟩:=xh.YA)
    have lV:=((xh.other (a:=⟨w2.heap.size,0,none⟩) Q5 (.slice b10 m10 c10)).other (a:=⟨w2.heap.size,2,none⟩) Q5 (.int .i64 (m10:Int))).other (a:=⟨w2.heap.size,3,none⟩) Q5 (.slice none 0 0);obtain⟨y0,y1,y2,y3,y4,y5⟩:=(lV.six' (.slice b10 m10 c10) (.int .i64 (n:Int)) (.int .i64 (m10:Int)) (.slice none 0 0) (.slice ua un uc) (.bool O)).six;refine ZC (v:=.tuple #[.agg (X7 (.slice b10 m10 c10) (n:Int) (m10:Int) (.slice none 0 0) (.slice ua un uc) O),.int .i64 0]) Zx rfl ?_;have hxs:xs≠[]:=by have:=kR.out;rintro rfl;simp at this;omega
    have QvD:ls.length=ln:=uh.out;have hkl:k=ln+1:=Qyh.out;have QV7:Yh (fun k=>w.heap.size+2<=k/\k≠w2.heap.size) wr (Kt n f s slots) (zC ⟨ls,(n:Int),W,XU,pat,O⟩ xs):=by
     rw[HRV.out];unfold zC;rw[if_neg hxs];simp only;by_cases hc:n<k
     ·rw[if_pos hc,if_pos QQ];exact HAr.out.drop 1
     ·rw[if_neg hc,if_neg QQ];exact HAr.out
    have hml:m10=(zC ⟨ls,(n:Int),W,XU,pat,O⟩ xs).length:=by
     rw[<-QV7.1];exact QWd.out.vs.get.1.symm
    have hAH:qj ⟨ls,(n:Int),W,XU,pat,O⟩ xs=⟨zC ⟨ls,(n:Int),W,XU,pat,O⟩ xs,(n:Int),(m10:Int),[],pat,O⟩:=by
     unfold qj;rw[hml]
    rw[hAH];have QY5:=((QY6.setCell (p:=⟨w2.heap.size,0,none⟩) Qv (.slice b10 m10 c10)).setCell (p:=⟨w2.heap.size,2,none⟩) Qv (.int .i64 (m10:Int))).setCell (p:=⟨w2.heap.size,3,none⟩) Qv (.slice none 0 0);have hcl:=fun(q:Addr) (v:Value) (hq:w.heap.size+2<=q.block/\q.block≠w2.heap.size) (hc:Hl.cell? q=some v)=>
     Re (B:=w.heap.size+1) (u0:=.slice b10 m10 c10) (u1:=.int .i64 (n:Int)) (u2:=.int .i64 (m10:Int)) (u3:=.slice none 0 0) (u4:=.slice ua un uc) (u5:=.bool O) (Zr (Zr (Zr hc (a:=⟨w2.heap.size,0,none⟩) (u:=.slice b10 m10 c10) hq.2) (a:=⟨w2.heap.size,2,none⟩) (u:=.int .i64 (m10:Int)) hq.2) (a:=⟨w2.heap.size,3,none⟩) (u:=.slice none 0 0) hq.2) QQ
    exact⟨_,_,_,rfl,⟨⟨Kt n f s slots,((QWd.out.vsp.imp (Q:=fun k=>w.heap.size+2<=k/\k≠w2.heap.size) (fun k hk=>QQ)).keep hcl).imp (fun k hk=>QQ),QV7.imp (fun v ys h=>((h.below KI).keep hcl).imp (fun k hk=>QQ))⟩,rfl,rfl,Yn.nil _ _,((HPr.out.below KI).keep hcl).imp (fun k hk=>QQ),rfl⟩,Jd QY5 (ZA _)⟩
def oW(R:Hi->Int->Prop)(P:Nat->Prop)(w:World)(e:Ending)(w':World):Prop:=∃h E,R h E/\Mc P h E w e w'
theorem ic(lv:Value)(most Zm:Int)(sv pv:Value)(older:Bool)(h:Hi)(a:Option Addr)(nn c:Nat)(xs:List Int)(w:World)(r:Wh w lv most Zm sv pv older h)(hx:Ints w a xs)(Jq:xs.length=nn)(hx0:a=none->nn=0):
  Calls Tryz.prog 81 #[.agg (X7 lv most Zm sv pv older),.slice a nn c] w (oW (QKC h xs) (fun k=>w.heap.size<=k) w):=by
 obtain⟨ls,M,W,XU,pat,O⟩:=h;by_cases hE:jF ⟨ls,M,W,XU,pat,O⟩=0
 ·rcases Z9 200 nn with hn|hn
  ·exact(BL lv most Zm sv pv older ls M W XU pat O a nn c w r hE hn _).mono fun e w' h=>⟨hi0,2,.inr (.inl ⟨hE,QQ,rfl,rfl⟩),h⟩
  ·rcases Xf nn with h0|h0
   ·exact(BM lv most Zm sv pv older ls M W XU pat O a nn c w r xs hE hx Jq hx0 hn h0).mono fun e w' h=>⟨_,0,.inr (.inr ⟨hE,QQ,rfl,rfl⟩),h⟩
   ·exact(Dx lv most Zm sv pv older ls M W XU pat O a nn c w r xs hE hx Jq hx0 hn h0).mono fun e w' h=>⟨_,0,.inr (.inr ⟨hE,QQ,rfl,rfl⟩),h⟩
 ·exact(GN lv most Zm sv pv older ls M W XU pat O a nn c w r _ rfl hE _).mono fun e w' h=>⟨hi0,_,.inl ⟨hE,rfl,rfl⟩,h⟩
theorem Yn.Ua{F:Nat->Prop}{w:World}{B i:Nat}{u v:Value}{xs:List Int}(h:Yn F w v xs)(hB:¬F B):Yn F (w.setCell ⟨B,i,none⟩ u) v xs:=h.setCell hB u
theorem WE.Ua{F:Nat->Prop}{w:World}{B i:Nat}{u:Value}{lv:Value}{most Zm:Int}{sv pv:Value}{older:Bool}{h:Hi}(r:WE F w lv most Zm sv pv older h)(hB:¬F B):WE F (w.setCell ⟨B,i,none⟩ u) lv most Zm sv pv older h:=
 r.JB (Xv.setCell (a:=⟨B,i,none⟩) hB u) (fun _ h=>h)
theorem At.Pm{F0 G0 F:Nat->Prop}{w0 w:World}{B:Nat}{f:Nat->Value}{S:SS}{lv sv pv:Value}{hh:Hi}(h:At F0 G0 w0 F w B f S)(r:WE F w lv hh.most hh.Zm sv pv hh.older hh):
  ∃f',At F0 G0 w0 F ((((((w.setCell ⟨B,37,none⟩ lv).setCell ⟨B,38,none⟩ (.int .i64 hh.most)).setCell ⟨B,39,none⟩ (.int .i64 hh.Zm)).setCell ⟨B,40,none⟩ sv).setCell ⟨B,41,none⟩ pv).setCell ⟨B,42,none⟩ (.bool hh.older)) B f' {S with XQ:=hh}/\f' 0=f 0:=by
 have nB:=h.hf.m.nB;have g:=h.hf.d.XQ;obtain⟨h1,h2,h3,h4,h5,h6⟩:=S.XQ;have a1:=h.store (S':={S with XQ:=⟨hh.ls,S.XQ.most,S.XQ.Zm,S.XQ.XU,S.XQ.pat,S.XQ.older⟩}) 37 lv {h.hf.d with XQ:=⟨r.ls,rfl,rfl,h.hf.d.XQ.XU,h.hf.d.XQ.pat,rfl⟩};have r1:=r.Ua (i:=37) (u:=lv) nB;have a2:=a1.store (S':={S with XQ:=⟨hh.ls,hh.most,S.XQ.Zm,S.XQ.XU,S.XQ.pat,S.XQ.older⟩}) 38 (.int .i64 hh.most) {a1.hf.d with XQ:=⟨r1.ls,rfl,rfl,a1.hf.d.XQ.XU,a1.hf.d.XQ.pat,rfl⟩,RN:=rfl};have r2:=r1.Ua (i:=38) (u:=.int .i64 hh.most) nB;have a3:=a2.store (S':={S with XQ:=⟨hh.ls,hh.most,hh.Zm,S.XQ.XU,S.XQ.pat,S.XQ.older⟩}) 39 (.int .i64 hh.Zm) {a2.hf.d with XQ:=⟨r2.ls,rfl,rfl,a2.hf.d.XQ.XU,a2.hf.d.XQ.pat,rfl⟩,Ey:=rfl};have r3:=r2.Ua (i:=39) (u:=.int .i64 hh.Zm) nB;have a4:=a3.store (S':={S with XQ:=⟨hh.ls,hh.most,hh.Zm,hh.XU,S.XQ.pat,S.XQ.older⟩}) 40 sv {a3.hf.d with XQ:=⟨r3.ls,rfl,rfl,r3.XU,a3.hf.d.XQ.pat,rfl⟩};have r4:=r3.Ua (i:=40) (u:=sv) nB;have a5:=a4.store (S':={S with XQ:=⟨hh.ls,hh.most,hh.Zm,hh.XU,hh.pat,S.XQ.older⟩}) 41 pv {a4.hf.d with XQ:=⟨r4.ls,rfl,rfl,r4.XU,r4.pat,rfl⟩};have r5:=r4.Ua (i:=41) (u:=pv) nB;have a6:=a5.store (S':={S with XQ:=hh}) 42 (.bool hh.older) {a5.hf.d with XQ:=r5,holder:=rfl};exact⟨_,a6,rfl⟩
theorem WH(F G:Nat->Prop)(B:Nat)(S:SS)(lv sv pv:Value)(hh:Hi)(a:Option Addr)(m c:Nat)(l:List Int)(E:Int)(w:World)(h:YF F G w B S)(r:WE F w lv hh.most hh.Zm sv pv hh.older hh)(hl:Yn F w (.slice a m c) l)(hm:m<=4096)(hn:S.told.length<=4398046511103):
  Calls Tryz.prog 79 #[.pointer (some ⟨B,0,none⟩),.agg (X7 lv hh.most hh.Zm sv pv hh.older),.slice a m c,.int .i64 E] w (VP F G w B (S.moved (hh,l,E)) YM):=by
 obtain⟨f,hf⟩:=h;have hA:=At.begin hf;unfold X7;obtain⟨o,hv1,hlv⟩:∃(o:Option Addr×Nat×Nat),lv=.slice o.1 o.2.1 o.2.2/\True:=by
  obtain⟨vs,h1,-⟩:=r.ls;obtain⟨a,n,c,e,-⟩:=h1;exact⟨(a,n,c),e,trivial⟩
 obtain⟨la,ln,lc⟩:=o;obtain⟨sa,sn,sc,rfl⟩:=r.XU.form;obtain⟨pa,pn,pc,rfl⟩:=r.pat.form;dsimp only at hv1;subst hv1;have hbx:=fun W:World=>ZR W (.cells #[.slice la ln lc,.int .i64 hh.most,.int .i64 hh.Zm,.slice sa sn sc,.slice pa pn pc,.bool hh.older] 85)
 have hR:=Za.new w #[.slice la ln lc,.int .i64 hh.most,.int .i64 hh.Zm,.slice sa sn sc,.slice pa pn pc,.bool hh.older] 85;have hBl:=hf.vz;by_cases hE:E=0
 ·subst hE
  obtain⟨f',hA2,-⟩:=hA.Pm r;have hA3:=hA2.JA (hbx _);have hl2:=((((((hl.Ua (i:=37) (u:=.slice la ln lc) hA.hf.m.nB).Ua (i:=38) (u:=.int .i64 hh.most) hA.hf.m.nB).Ua (i:=39) (u:=.int .i64 hh.Zm) hA.hf.m.nB).Ua (i:=40) (u:=.slice sa sn sc) hA.hf.m.nB).Ua (i:=41) (u:=.slice pa pn pc) hA.hf.m.nB).Ua (i:=42) (u:=.bool hh.older) hA.hf.m.nB).below (hbx _);have HT:=Zy (AZ F (Gx G w _) B {S with XQ:=hh} a m c l 0 _ ⟨f',hA3.hf⟩ hl2.sl hm (.inl rfl));have HA2:=Zy hA3;obtain⟨y0,y1,y2,y3,y4,y5⟩:_/\_/\_/\_/\_/\_:=⟨hR.cell 0,hR.cell 1,hR.cell 2,hR.cell 3,hR.cell 4,hR.cell 5⟩;simp only[List.getElem?_toArray,List.getElem?_cons_zero,List.getElem?_cons_succ]at y0 y1 y2 y3 y4 y5;obtain⟨c37,z37⟩:=hf.m.blk.at 37;obtain⟨c38,z38⟩:=hf.m.blk.at 38;obtain⟨c39,z39⟩:=hf.m.blk.at 39;obtain⟨c40,z40⟩:=hf.m.blk.at 40;obtain⟨c41,z41⟩:=hf.m.blk.at 41;obtain⟨c42,z42⟩:=hf.m.blk.at 42;have he:S.moved (hh,l,0)=({S with XQ:=hh}).Js l 0:=rfl;rw[he];clear hf hA hA2 hA3 hR r hl hl2 he hbx;go_enter Tryz.func79,Tryz.ntmps79
  go_wp2_with fail
  refine HT.out.mono ?_;rintro e w2 ⟨rfl,hv⟩;obtain⟨F',f3,hA3,-,-⟩:=HA2.out.call hv;exact QLu
 ·have hA1:=hA.JA (hbx w)
  have HT:=Zy (U9 F (Gx G w _) B S _ ⟨f,hA1.hf⟩ hn);have HA1:=Zy hA1;have he:S.moved (hh,l,E)=S.Y2:=by unfold SS.moved;rw[if_pos hE]
  rw[he];have hE2:(E !=0)=true:=QET;clear hf hA hA1 hR r hl hbx he hE;go_enter Tryz.func79,Tryz.ntmps79
  go_wp2_with fail
  refine HT.out.mono ?_;rintro e w2 ⟨rfl,hv⟩;obtain⟨F',f3,hA3,-,-⟩:=HA1.out.call hv;exact QLu
theorem Own.cap0{e:TypeId}{base:Nat}{w:World}{a:Option Addr}{n c:Nat}{xs:List Int}(h:Own e base w (.slice a n c) xs):a=none->c=0:=by
 rcases h.2 with⟨hv,_⟩|⟨g,cap,cur,hv,hb,hg,hn,hm,hs,ht⟩
 ·simp only[Xy]at hv
  obtain⟨rfl,rfl,rfl⟩:=hv;exact fun _=>rfl
 ·simp only[Xy]at hv
  obtain⟨rfl,_,rfl⟩:=hv;exact fun e=>QDk
theorem TS{xs:List Int}{p mode key b:Int}(h:U8 xs p mode key->KL xs false p b):JV xs p mode key b=JV xs p mode key (Kl xs false p):=by
 by_cases hu:U8 xs p mode key
 ·rw[EI (by have:=hu.2.1;omega) hu.2.2.1 (h hu) (WT xs false p (by have:=hu.2.1;omega))]
 ·exact N8 hu _ _
structure KyP (S:SS) (key:Int) (w wx:World) (L:Nat) (a:Option Addr) (n c:Nat):Prop where
 lo:w.heap.size<=L
 c0:wx.cell? ⟨L,0,none⟩=some (.slice a n c)
 c1:wx.cell? ⟨L,1,none⟩=some (.int .i64 (S.J5 key).2.1)
 sl:Sl wx (.slice a n c) (S.J5 key).1
 n4:n<=4096
 Xw:Below w.heap.size w wx
theorem QZo{B:Nat}{m:Int}{w wa wb:World}(hB:B<w.heap.size)(h:wa.cell? ⟨B,2,none⟩=some (.int .i64 m)/\Below w.heap.size w wa)(hb:Below wa.heap.size wa wb):wb.cell? ⟨B,2,none⟩=some (.int .i64 m)/\Below w.heap.size w wb:=⟨Zd hb _ _ h.1,h.2.trans (hb.mono h.2.size)⟩
theorem QYP{B:Nat}{m:Int}{w wa:World}(hB:B<w.heap.size)(h:wa.cell? ⟨B,2,none⟩=some (.int .i64 m)/\Below w.heap.size w wa)(o:Obj):(wa.alloc o).cell? ⟨B,2,none⟩=some (.int .i64 m)/\Below w.heap.size w (wa.alloc o):=QZo hB h (ZR _ _)
theorem QYN{B:Nat}{m:Int}{w wa:World}(h:Below w.heap.size w wa)(hc:w.cell? ⟨B,2,none⟩=some (.int .i64 m))(o:Obj):(wa.alloc o).cell? ⟨B,2,none⟩=some (.int .i64 m)/\Below w.heap.size w (wa.alloc o):=⟨Zd (h.alloc h.size o) _ _ hc,Zp.alloc h⟩
theorem QYO{B L:Nat}{m:Int}{w wa:World}(hB:B<w.heap.size)(h:wa.cell? ⟨B,2,none⟩=some (.int .i64 m)/\Below w.heap.size w wa)(hL:w.heap.size<=L)(u v:Value):((wa.setCell ⟨L,0,none⟩ u).setCell ⟨L,1,none⟩ v).cell? ⟨B,2,none⟩=some (.int .i64 m)/\Below w.heap.size w ((wa.setCell ⟨L,0,none⟩ u).setCell ⟨L,1,none⟩ v):=
 ⟨Zr (Zr h.1 (by intro e;simp at e;omega)) (by intro e;simp at e;omega),(h.2.setCell (p:=⟨L,0,none⟩) hL _).setCell (p:=⟨L,1,none⟩) hL _⟩
theorem QYL{Wz n c:Nat}{w6:World}{a:Option Addr}{ys:List Int}(hi:Ints w6 a ys)(hl:ys.length=n)(hc:n<=1000/\n<=c/\c<=9223372036854775807/\(a=none->n=0)/\(True->∀ad,a=some ad->Wz<=ad.block)):Yn (fun k=>Wz<=k/\k<w6.heap.size) w6 (.slice a n c) ys:=
 (Yn.lt (P:=fun k=>Wz<=k) ⟨a,n,c,rfl,hl,hc.2.1,hc.2.2.1,hi,hc.2.2.2.1,fun ad e _=>hc.2.2.2.2 trivial ad e⟩)
theorem QzL{S:SS}{key:Int}{w w6:World}{L n c Wz:Nat}{a:Option Addr}(hL:Za w6 L #[.slice none 0 0,.int .i64 0] 42)(hlo:w.heap.size<=L)(hlt:L<Wz)(hs:Yn (fun k=>Wz<=k/\k<w6.heap.size) w6 (.slice a n c) (S.J5 key).1)(hn:n<=1000)(hB:Below w.heap.size w w6):
  KyP S key w ((w6.setCell ⟨L,0,none⟩ (.slice a n c)).setCell ⟨L,1,none⟩ (.int .i64 (S.J5 key).2.1)) L a n c:=by
 obtain⟨k0,k1,-,-⟩:=((hL.set 0 (.slice a n c)).set 1 (.int .i64 (S.J5 key).2.1)).two;have hnF:¬(Wz<=L/\L<w6.heap.size):=QQ;exact⟨hlo,k0,k1,((hs.Ua (i:=0) (u:=.slice a n c) hnF).Ua (i:=1) (u:=.int .i64 (S.J5 key).2.1) hnF).sl,QQ,(hB.setCell (p:=⟨L,0,none⟩) hlo _).setCell (p:=⟨L,1,none⟩) hlo _⟩
theorem QzM{S:SS}{key:Int}{w w6:World}{n c Wz:Nat}{a:Option Addr}(hs:Yn (fun k=>Wz<=k/\k<w6.heap.size) w6 (.slice a n c) (S.J5 key).1)(hn:n<=1000)(hB:Below w.heap.size w w6):
  KyP S key w (w6.alloc (.cells #[.slice a n c,.int .i64 (S.J5 key).2.1] 42)) w6.heap.size a n c:=by
 obtain⟨k0,k1,-,-⟩:=(Za.new w6 #[.slice a n c,.int .i64 (S.J5 key).2.1] 42).two;exact⟨hB.size,k0,k1,(hs.below (ZR _ _)).sl,QQ,Zp.alloc hB⟩
theorem vw(F G:Nat->Prop)(B:Nat)(S:SS)(key:Int)(w:World)(h:YF F G w B S)(hl:S.text.length<=200)(hp0:0<=S.pos)(hp1:S.pos<=200)(hn:S.told.length<=4398046511103)(hty:∀c ty,S.now=some (c,ty)->ty.length<=4398046511103):
  Calls Tryz.prog 61 #[.pointer (some ⟨B,0,none⟩),.int .i64 key] w (VP F G w B (S.typed key) YM):=by
 by_cases hk:key=27
 ·subst hk
  have HT:=Zy (dV F G B S w h hp0 hp1);have he:S.typed 27=S.leave:=by unfold SS.typed;rw[if_pos rfl]
  rw[he];clear h hl hp0 hp1 hn hty he;go_enter Tryz.func61,Tryz.ntmps61
  go_wp2_with fail
  refine HT.out.mono ?_;rintro e w2 ⟨rfl,hv⟩;exact QHp
 obtain⟨f,hf⟩:=h;have hA:=At.begin hf;have c2:=hf.cell 2;rw[hf.d.mode]at c2;have uh:=Zy (fun(w':World) (hb:Below w.heap.size w w')=>Ed F _ B S w' ⟨f,(hA.JA hb).hf⟩ QQ);have hBl:=hf.vz;have HA:=Zy hA;have oN:=Zy hn;have nD:=Zy hty;have HL:=Zy hl;have QvI:(key==27)=false:=by simpa using hk
 have HE:=Zy (show S.typed key=(if(S.J5 key).2.2≠0 then S.Y2 else {S.set (S.J5 key).1 (S.J5 key).2.1 with now:=S.now.map fun p=>(p.1,p.2++[key])}) by unfold SS.typed;rw[if_neg hk]);have HKF:=Zy (show JV S.text S.pos S.mode key (Kl S.text false S.pos)=S.J5 key from rfl);clear hf hA hl hn hty hk hp0 hp1;go_enter Tryz.func61,Tryz.ntmps61
 go_upto_region 2 with fail
 go_cut [4,5] (fun v4 v5 wx=>∃L a n c,v4=.pointer (some ⟨L,0,none⟩)/\v5=.int .i64 (S.J5 key).2.2/\KyP S key w wx L a n c)
 case first=>
  go_region_held3 (fun w'=>w'.cell? ⟨B,2,none⟩=some (.int .i64 S.mode)/\Below w.heap.size w w') (first|exact⟨c2,(ZH _ _).drew⟩|(with_reducible assumption)|exact QZo hBl ‹_› ‹_› | exact QYP hBl ‹_› _|exact QYN qU c2 _|exact QYO hBl ‹_› OW _ _)
   (first|(go_at_call 30;refine(uh.out _ ?_).mono ?_;(·repeat' (first|(with_reducible exact ZH _ _)|(with_reducible refine Zp.alloc ?_)|(with_reducible refine Zp.drew ?_)));rintro e w5 ⟨v5,rfl,o5,hb5⟩;obtain⟨a5,n5,k5,rfl⟩:=o5.form;have JR:Below w.heap.size w w5:=QG)|(go_at_call 84;refine(mX a5 n5 k5 S.text S.pos S.mode key _ ?_ ?_ ?_ ?_ ?_).mono ?_;(·first|exact o5.get.2.1|exact o5.get.2.1.below (ZR _ _));(·exact o5.get.1);(·exact o5.cap.1);(·exact o5.cap.2.1);(·exact o5.cap0);rintro e w6 ⟨a6,n6,k6,b6,rfl,hu6,hi6,hl6,hc6,hb6⟩;rw[TS hu6,HKF.out]at hi6 hl6 ⊢;have hs6:=QYL hi6 hl6 hc6;have qU:Below w.heap.size w w6:=QDU;have hs5:=JR.size;(first|(refine jq (P:=Za w6 (w.heap.size) #[.slice none 0 0,.int .i64 0] 42) ?_ ?_;(·repeat' (first|((with_reducible refine Jy ?_);(first|rfl|(simp;done)))|(with_reducible refine Za.Yc hb6 ?_)|(with_reducible refine Za.Yc hb5 ?_)|(with_reducible refine Za.J2 ?_)|(with_reducible refine Za.Yf ?_)));intro hL6;have Qz8:=hL6.lt;have OW:=ZB w.heap.size;obtain⟨h60,h61,k60,k61⟩:=hL6.two)|(refine jq (P:=Za w6 (w5.heap.size) #[.slice none 0 0,.int .i64 0] 42) ?_ ?_;(·repeat' (first|((with_reducible refine Jy ?_);(first|rfl|(simp;done)))|(with_reducible refine Za.Yc hb6 ?_)|(with_reducible refine Za.Yc hb5 ?_)|(with_reducible refine Za.J2 ?_)|(with_reducible refine Za.Yf ?_)));intro hL6;have Qz8:=hL6.lt;have OW:=hs5;obtain⟨h60,h61,k60,k61⟩:=hL6.two)|skip)))
  all_goals
   go_wp2;go_meet
   first
    | exact⟨_,_,_,_,rfl,rfl,QzL hL6 OW QD3 hs6 hc6.1 qU⟩
    | exact⟨_,_,_,_,rfl,rfl,QzM hs6 hc6.1 qU⟩
 case rest=>
  obtain⟨L,a,n,c,rfl,rfl,hK⟩:=hcut;have hA2:=HA.out.below hK.Xw;have l0:=hK.c0;have l1:=hK.c1;by_cases hE:(S.J5 key).2.2=0
  ·rw[hE]
   have HST:=Zy (NY _ _ B S a n c (S.J5 key).1 (S.J5 key).2.1 wc ⟨f,hA2.hf⟩ hK.sl hK.n4);have he2:S.typed key={S.set (S.J5 key).1 (S.J5 key).2.1 with now:=S.now.map fun p=>(p.1,p.2++[key])}:=by rw[HE.out,if_neg (fun e=>e hE)]
   have HA2:=Zy hA2;have HE2:=Zy he2;clear hA2 hK hE he2;go_wp2_with fail
   refine HST.out.mono ?_;rintro e w7 ⟨rfl,hv7⟩;obtain⟨F7,f7,hA3,-,-⟩:=HA2.out.call hv7;obtain⟨x47,v47⟩:=hA3.hf.m.blk.at 47;have Gv:=hA3.hf.m.now;have hno:(S.set (S.J5 key).1 (S.J5 key).2.1).now=S.now:=rfl;rw[hno]at Gv;cases jJ:S.now with
   | none=>
    rw[jJ]at Gv;have Gv:f7 47=.pointer none:=Gv;rw[Gv]at x47;have um:=Zy hA3;have bg:=Zy jJ;clear hA3 hv7 Gv jJ hno;go_wp2
    go_end0
    exact⟨rfl,by rw[HE2.out,Nz bg.out];exact um.out.done⟩
   | some qq=>
    obtain⟨c7,Ho⟩:=qq;rw[jJ]at Gv;obtain⟨C7,tv7,h47,q2,q3,q4,q5,q6⟩:=Gv;rw[h47]at x47;obtain⟨ta,tn,tc,rfl⟩:=q5.form;have k5:w7.cell? ⟨C7,5,none⟩=some (.slice ta tn tc):=q4.cell 5;have z5:=q4.free 5;have k5':(w7.alloc (.cells #[.int .i64 key] 3)).cell? ⟨C7,5,none⟩=some (.slice ta tn tc):=Zd (ZR _ _) _ _ k5;have QuF:(w7.alloc (.cells #[.int .i64 key] 3)).cell? ⟨B,47,none⟩=some (.pointer (some ⟨C7,0,none⟩)):=Zd (ZR _ _) _ _ x47;have QUn:=nD.out c7 Ho jJ;have um:=Zy hA3;have bg:=Zy jJ;have HQ5:=Zy q5;have HQ4:=Zy q4;have H47:=Zy h47;have HT7:=Zy QUn;clear hA3 hv7 jJ hno q2 q3 q4 q5 q6 h47 QUn;go_upto_region 7 with fail
    go_region_law (first|(refine NB QDu _ _ rfl 0 (.slice ta tn tc) Ho key _ rfl rfl ((HQ5.out.drew).alloc _) (CQ w7.drew (.int .i64 key) 3 rfl) (Nat.lt_of_le_of_lt HT7.out QZ) (Z4 _) ?_;intro v8 w8 o8 oF QQy;obtain⟨a8,n8,m8,rfl⟩:=o8.form;have Uq:Vl w8 B f7:=Za.grown (Za.alloc (show Vl w7.drew B f7 from um.out.hf.m.blk) (.cells #[.int .i64 key] 3)) oF (HQ5.out.XP um.out.hf.m.blk QZ);have g47:w8.cell? ⟨B,47,none⟩=some (.pointer (some ⟨C7,0,none⟩)):=(by rw[Uq.cell QQ,H47.out]);have JJ:=Za.grown (Za.alloc (w:=w7.drew) HQ4.out (.cells #[.int .i64 key] 3)) oF (HQ5.out.XP HQ4.out QZ);have g5:w8.cell? ⟨C7,5,none⟩=some (.slice ta tn tc):=JJ.cell 5;have y5:=JJ.free 5;clear JJ))
    all_goals
     go_wp2
     go_end0
     have hT:=um.out.typ (w1:=w7.drew.alloc (.cells #[.int .i64 key] 3)) (key:=key) bg.out H47.out (HQ4.out.cell 5) (Zp.alloc (Zp.drew (ZH _ w7))) oF o8 QQy rfl;exact⟨rfl,by rw[HE2.out,bg.out];exact hT.done⟩
  ·have HB:=Zy (U9 _ _ B S wc ⟨f,hA2.hf⟩ oN.out)
   have he2:S.typed key=S.Y2:=by rw[HE.out,if_pos hE]
   have hE2:((S.J5 key).2.2 !=0)=true:=QET;have HA2:=Zy hA2;have HE2:=Zy he2;clear hA2 hK hE he2;generalize(S.J5 key).2.2=er at hE2 ⊢;go_wp2_with fail
   refine HB.out.mono ?_;rintro e w7 ⟨rfl,hv⟩;go_wp2
   go_end0
   obtain⟨F',f',hA3,-,-⟩:=HA2.out.call hv;exact⟨rfl,by rw[HE2.out];exact hA3.done⟩
end Go.Proofs.YtmdnepkekekncaaGreat
