/- LiftTopBounds: joined, no condition of its own. -/
import Derived.Test.YtmdcencmiopmmaaGreatTbJoinT
import Derived.Test.YtmdcencmiopmmaaGreatTbJoinJ1
import Derived.Test.YtmdcencmiopmmaaGreatTbJoinJ20
import Derived.Test.YtmdcencmiopmmaaGreatTbJoinJ21
import Derived.Test.YtmdcencmiopmmaaGreatTbJoinJ26
import Derived.Test.YtmdcencmiopmmaaGreatTbJoinJ34
import Derived.Test.YtmdcencmiopmmaaGreatTbJoinJ35
import Derived.Test.YtmdcencmiopmmaaGreatTbJoinJ37
set_option linter.unusedVariables false
set_option linter.unusedSimpArgs false
set_option maxRecDepth 100000
set_option maxHeartbeats 12000000
namespace Go.Proofs.YtmdcencmiopmmaaGreat
open Go.RowKit
theorem Hu{xs:List Int}{p mode key b:Int}(h:200<xs.length):X7 xs p mode key b=([],0,2):=by unfold X7;rw[if_pos h]
theorem Sv{xs:List Int}{p mode key b:Int}(h:xs.length<=200)(h2:p<0\/(xs.length:Int)<p\/(mode≠1/\mode≠2)):X7 xs p mode key b=([],0,1):=by unfold X7;rw[if_neg (by omega),if_pos h2]
theorem D5{xs:List Int}{p mode key:Int}(h:200<xs.length):¬Ku xs p mode key:=fun h'=>by have:=h'.1;omega
theorem Mh{xs:List Int}{p mode key:Int}(h2:p<0\/(xs.length:Int)<p\/(mode≠1/\mode≠2)):¬Ku xs p mode key:=fun h'=>by
 obtain⟨_,h3,h4,h5,_⟩:=h';omega
theorem kR(a:Option Addr)(n c:Nat)(xs:List Int)(p mode key:Int)(w:World)(hn:xs.length=n)(h:200<n)(h3:n<=9223372036854775807):
  Calls Tryz.prog 136 #[.agg #[.slice a n c,.int .i64 p],.int .i64 mode,.int .i64 key] w (XR True (Y5 xs false p) xs p mode key w):=by
 have HK:=QQ (Hu (xs:=xs) (p:=p) (mode:=mode) (key:=key) (b:=0) (by omega));have HU:=QQ (D5 (xs:=xs) (p:=p) (mode:=mode) (key:=key) (by omega));have hb:=QS w (.cells #[.slice a n c,.int .i64 p] 30) (.cells #[.slice none 0 0,.int .i64 0] 30);have hA:=QD.new (w.alloc (.cells #[.slice a n c,.int .i64 p] 30)) #[.slice none 0 0,.int .i64 0] 30;rw[QJ]at hA;obtain⟨y0,y1,-,-⟩:=hA.two;clear hn;go_enter Tryz.func136,Tryz.ntmps136
 go_wp2;refine QV (v:=.tuple #[.agg #[.slice none 0 0,.int .i64 0],.int .i64 2]) (by simp[results,Tryz.results136,go_sem,y0,y1]) rfl ?_;exact XR.of HK.out (fun h=>absurd h HU.out) (.inl rfl) rfl (by omega) hb
theorem DZ(a:Option Addr)(n c:Nat)(xs:List Int)(p mode key:Int)(w:World)(hn:xs.length=n)(h:n<=200)(hbad:p<0\/(n:Int)<p\/(mode≠1/\mode≠2)):
  Calls Tryz.prog 136 #[.agg #[.slice a n c,.int .i64 p],.int .i64 mode,.int .i64 key] w (XR True (Y5 xs false p) xs p mode key w):=by
 have HK:=QQ (Sv (xs:=xs) (p:=p) (mode:=mode) (key:=key) (b:=0) (by omega) (by rw[hn];exact hbad));have HU:=QQ (Mh (xs:=xs) (p:=p) (mode:=mode) (key:=key) (by rw[hn];exact hbad));have hb:=QS w (.cells #[.slice a n c,.int .i64 p] 30) (.cells #[.slice none 0 0,.int .i64 0] 30);have hA:=QD.new (w.alloc (.cells #[.slice a n c,.int .i64 p] 30)) #[.slice none 0 0,.int .i64 0] 30;rw[QJ]at hA;obtain⟨y0,y1,-,-⟩:=hA.two;clear hn;by_cases e1:p<0
 ·clear hbad
  exact Quq
 ·by_cases e2:(n:Int)<p
  ·clear hbad
   exact Quq
  ·obtain⟨m1,m2⟩:mode≠1/\mode≠2:=by omega
   have g1:(mode !=1)=true:=by simpa using m1
   have g2:(mode !=2)=true:=by simpa using m2
   clear hbad;exact Quq
theorem TN(a:Option Addr)(n c:Nat)(xs:List Int)(p mode key:Int)(w:World)(ha:Ints w a xs)(hn:xs.length=n)(hc:n<=c)(hc2:c<=9223372036854775807)(h0:a=none->c=0):
  Calls Tryz.prog 136 #[.agg #[.slice a n c,.int .i64 p],.int .i64 mode,.int .i64 key] w (XR True (Y5 xs false p) xs p mode key w):=by
 by_cases h1:200<n
 ·exact kR a n c xs p mode key w hn h1 (by omega)
 ·by_cases h2:p<0\/(n:Int)<p\/(mode≠1/\mode≠2)
  ·exact DZ a n c xs p mode key w hn (by omega) h2
  ·obtain⟨q,rfl⟩:=Qg (show 0<=p by omega)
   rcases a with _|ad
   ·obtain rfl:c=0:=h0 rfl
    obtain rfl:n=0:=by omega
    obtain rfl:xs=[]:=QH hn;obtain rfl:q=0:=by omega
    exact Cw mode key w (by omega)
   ·exact vC ad n c q xs mode key w ha hn hc hc2 (by omega) (by omega) (by omega)
theorem vV(lv:Value)(most QM:Int)(sv pv:Value)(older:Bool)(ls:List (List Int))(M W:Int)(Qm pat:List Int)(O:Bool)(a:Option Addr)(nn c:Nat)(w:World)(r:Un w lv most QM sv pv older ⟨ls,M,W,Qm,pat,O⟩)(xs:List Int)(hE:qK ⟨ls,M,W,Qm,pat,O⟩=0)(hx:Ints w a xs)(X0:xs.length=nn)(hx0:a=none->nn=0)(hnn:nn<=200)(h0:0<nn):
  Calls Tryz.prog 133 #[.agg (Zc lv most QM sv pv older),.slice a nn c] w (Fa (fun k=>w.heap.size<=k) (VV ⟨ls,M,W,Qm,pat,O⟩ xs) 0 w):=by
 have hok:=U8 hE;have HE:=QQ hE;have YD:=QQ r;have hm1:1<=M:=hok.Ec;have hm2:M<=50:=hok.JH;have hlm:(ls.length:Int)<=M:=hok.len;have xq:=QQ X0;have HX0:=QQ hx0;have LY:=QQ hok.lines;have ak:=QQ hok.Qm;have au:=QQ hok.pat;clear hE hok X0 hx0;obtain⟨⟨vs,hvs,hls⟩,h1,h2,ZI,ZL,h3⟩:=r;simp only at hls h1 h2 h3 ZI ZL;obtain rfl:M=most:=h1.symm;obtain rfl:W=QM:=h2.symm;obtain rfl:O=older:=h3.symm;obtain⟨la,ln,lc,rfl,hl1,hl2,hl3,hl4,hl5⟩:=hvs;obtain⟨sa,sn,sc,rfl,hs1,hs2,hs3,hs4,hs5⟩:=ZI;obtain⟨pa,pn,pc,rfl,hp1,hp2,hp3,Wl,Jh⟩:=ZL;have hll:ls.length=ln:=by rw[<-hls.len];exact hl1
 have UL:=QQ (fun W' r=>Kh (.slice la ln lc) M W (.slice sa sn sc) (.slice pa pn pc) O ⟨ls,M,W,Qm,pat,O⟩ W' r);have xz:=QQ (fun W' r=>Jq (.slice la ln lc) M W (.slice sa sn sc) (.slice pa pn pc) O ⟨ls,M,W,Qm,pat,O⟩ W' r (by show ls.length<=50;omega) LY.out ak.out au.out);rw[hll]at hlm;obtain⟨n,rfl⟩:∃n:Nat,M=(n:Int):=⟨M.toNat,by omega⟩;have hn1:1<=n:=by omega
 have rX:n<=50:=by omega
 have QzB:ln<=n:=by omega
 have Ho:nn<=17592186044416:=by omega
 clear hm1 hm2 hlm;have yV:=QQ hll;unfold Zc at *;have hB:=(QD.new w #[.slice la ln lc,.int .i64 (n:Int),.int .i64 W,.slice sa sn sc,.slice pa pn pc,.bool O] 65).alloc (.cells #[.slice none 0 0,.int .i64 0,.int .i64 0,.slice none 0 0,.slice none 0 0,.bool false] 65);have hR:=QD.new (w.alloc (.cells #[.slice la ln lc,.int .i64 (n:Int),.int .i64 W,.slice sa sn sc,.slice pa pn pc,.bool O] 65)) #[.slice none 0 0,.int .i64 0,.int .i64 0,.slice none 0 0,.slice none 0 0,.bool false] 65;rw[QJ]at hR;have hacc:=QS w (.cells #[.slice la ln lc,.int .i64 (n:Int),.int .i64 W,.slice sa sn sc,.slice pa pn pc,.bool O] 65) (.cells #[.slice none 0 0,.int .i64 0,.int .i64 0,.slice none 0 0,.slice none 0 0,.bool false] 65);have hsz:w.heap.size+2<=((w.alloc (.cells #[.slice la ln lc,.int .i64 (n:Int),.int .i64 W,.slice sa sn sc,.slice pa pn pc,.bool O] 65)).alloc (.cells #[.slice none 0 0,.int .i64 0,.int .i64 0,.slice none 0 0,.slice none 0 0,.bool false] 65)).heap.size:=by simp
 have HR1:=QQ (YD.out.below hacc);clear hs1 hp1 hl1 hl5 hs5 Jh hll hls YD;go_enter Tryz.func133,Tryz.ntmps133
 go_upto_region 1 with fail
 change Code.wp _ _ _ _ ((w.alloc (.cells #[.slice la ln lc,.int .i64 (n:Int),.int .i64 W,.slice sa sn sc,.slice pa pn pc,.bool O] 65)).alloc (.cells #[.slice none 0 0,.int .i64 0,.int .i64 0,.slice none 0 0,.slice none 0 0,.bool false] 65));generalize((w.alloc (.cells #[.slice la ln lc,.int .i64 (n:Int),.int .i64 W,.slice sa sn sc,.slice pa pn pc,.bool O] 65)).alloc (.cells #[.slice none 0 0,.int .i64 0,.int .i64 0,.slice none 0 0,.slice none 0 0,.bool false] 65))=w1 at *;obtain⟨c0,c1,c2,c3,c4,c5⟩:=hB.six;go_wp2_with ((go_at_call 194);refine(UL.out _ HR1.out).mono ?_;rintro e wc ⟨rfl,hb2⟩;rw[HE.out];have hB2:=hB.below hb2 hB.lt;obtain⟨d0,d1,d2,d3,d4,d5⟩:=hB2.six;have hR2:=hR.below hb2 hR.lt;obtain⟨p0,p1,p2,p3,p4,p5⟩:=hR2.six;obtain⟨t0,t1,t2,t3,t4,t5⟩:=hR2.Z7;have Qc:=QW hacc (by omega) hb2;have hlt2:=hB2.lt;have hz2:=hb2.size;have HR2:=QQ (HR1.out.below hb2))
 refine(xz.out _ HR2.out).mono ?_;rintro e w2 ⟨dw,cO,dz,vs2,rfl,ho2,Ve,os2,Bp,hb3⟩;obtain⟨ra,rn,rc,rfl⟩:=ho2.form;obtain⟨ta,tn,tc,rfl⟩:=os2.form;obtain⟨ua,un,uc,rfl⟩:=Bp.form;have YG:=QW Qc (by omega) hb3;have hB3:=hB2.below hb3 hB2.lt;have UE:=hR2.below hb3 hR2.lt;have hz3:=hb3.size;have Sd:=ho2.mono (base':=w.heap.size+2) (by omega);have El:=Ve.imp (base':=w.heap.size+2) fun _ _ k=>k.mono (by omega)
 have R6:=Bp.mono (base':=w.heap.size+2) (by omega);have qz:=QQ Sd;have uy:=QQ El;have aA:=QQ R6;simp only[Zc];clear ho2 Ve os2 Bp Sd El R6 c0 c1 c2 c3 c4 c5 d0 d1 d2 d3 d4 d5 p0 p1 p2 p3 p4 p5 t0 t1 t2 t3 t4 t5;have fC:=QD.new w2 #[.slice ra rn rc,.int .i64 (n:Int),.int .i64 W,.slice ta tn tc,.slice ua un uc,.bool O] 65;have hk3:=QC w2 (.cells #[.slice ra rn rc,.int .i64 (n:Int),.int .i64 W,.slice ta tn tc,.slice ua un uc,.bool O] 65);have Av:(w2.alloc (.cells #[.slice ra rn rc,.int .i64 (n:Int),.int .i64 W,.slice ta tn tc,.slice ua un uc,.bool O] 65)).heap.size=w2.heap.size+1:=by simp
 have hB4:=hB3.alloc (.cells #[.slice ra rn rc,.int .i64 (n:Int),.int .i64 W,.slice ta tn tc,.slice ua un uc,.bool O] 65);have hR4:=UE.alloc (.cells #[.slice ra rn rc,.int .i64 (n:Int),.int .i64 W,.slice ta tn tc,.slice ua un uc,.bool O] 65);go_upto_region 7 with fail
 change Code.wp _ _ _ _ (w2.alloc (.cells #[.slice ra rn rc,.int .i64 (n:Int),.int .i64 W,.slice ta tn tc,.slice ua un uc,.bool O] 65));generalize(w2.alloc (.cells #[.slice ra rn rc,.int .i64 (n:Int),.int .i64 W,.slice ta tn tc,.slice ua un uc,.bool O] 65))=w3 at *;have Ki:=QW YG (by omega) hk3;obtain⟨c0,c1,c2,c3,c4,c5⟩:=hB4.six;go_wp2_with fail
 refine(MR n hn1 (by omega) w3).mono ?_;rintro e w4 ⟨p,g,rfl,hring,hp3,hg3,hb4⟩;have Xh:=QW Ki (by omega) hb4;have Ng:=hb4.size;have hN4:=fC.below hb4 fC.lt;have Yu:=hB4.below hb4 hB4.lt;have Jv:=hR4.below hb4 hR4.lt;have hk4:Below w2.heap.size w2 w4:=QW hk3 (by omega) hb4;have HO4:=QQ (qz.out.kept hk4);have HRG:=QQ hring;have hpg:p≠g:=hring.2.2.2.1;have hpl:=hring.1.lt;have hgl:=hring.2.1.lt;have hx4:=hx.below Xh;have hrn:vs2.length=rn:=qz.out.vs.get.1;have hrl:vs2.length=ls.length:=uy.out.1;have QZ9:rn=ln:=by rw[<-yV.out];omega
 have QYu:=QQ (show vs2.length=ln by omega);have QxL:=QQ QZ9;have Qzq:rn<=n:=by omega
 clear hring hrn hrl QZ9 c0 c1 c2 c3 c4 c5 Yu;obtain⟨n0,n1,n2,n3,n4,n5⟩:=hN4.six;go_upto_region 9 with fail
 have lg:∀a n c,FD [Value.slice a n c]:=fun a n c i hi=>by
  obtain rfl:i=0:=by simp at hi;omega
  exact⟨a,n,c,rfl⟩
 have QUh:=QQ lg;have HLEN:=QQ (show vs2.length+1<=4398046511104 by rw[QYu.out];omega);clear lg
 first
 | go_region_law (first|(go_simp;go_at_call 43;((with_reducible refine(Ql a nn c xs w4.drew hx4.drew xq.out Ho HX0.out).mono ?_));rintro e w5 ⟨v5,rfl,oW,hb5⟩;obtain⟨a5,n5',OC,rfl⟩:=oW.form;have hN5:=hN4.drew.below hb5 hN4.lt;obtain⟨f0,f1,f2,f3,f4,f5⟩:=hN5.six;obtain⟨fa0,fa1,fa2,fa3,fa4,fa5⟩:=(hN5.alloc (.cells #[.slice a5 n5' OC] 26)).six;have Oh:=QQ (Zk.kept (w:=w4.drew) (HO4.out.drew) hb5))|(refine BF (by rfl) _ _ rfl (w.heap.size+2) (.slice ra rn rc) vs2 [.slice a5 n5' OC] _ 1 1 rfl rfl (Oh.out.alloc _) (YJ w5 [.slice a5 n5' OC] _) (QUh.out _ _ _) rfl HLEN.out (by have:=hb5.size;simp at this ⊢;omega) ?_;intro v9 w9 o9 ZE QXN;obtain⟨a9,n9,c9,rfl⟩:=o9.form))
 | fail "region"
 all_goals
  have Nt:Below w4.heap.size w4 w5:=QW (Qx _ _).drew (QU _) hb5;have eG:=Nt.size;have pE:(w5.alloc (.cells #[.slice a5 n5' OC] 26)).heap.size=w5.heap.size+1:=by simp
  have QXq:some p≠(Value.slice ra rn rc).ownBlock:=qz.out.oH (by omega);have QXx:some g≠(Value.slice ra rn rc).ownBlock:=qz.out.oH (by omega);have QXz:some w2.heap.size≠(Value.slice ra rn rc).ownBlock:=qz.out.oH (QU _);have QXW:some (w.heap.size+1)≠(Value.slice ra rn rc).ownBlock:=qz.out.ne (by omega);have QUp:=QQ (show Jc w9 p g n 0 0 (List.replicate n (.slice none 0 0))from⟨((HRG.out.1.below Nt hpl).alloc _).grown ZE QXq,((HRG.out.2.1.below Nt hgl).alloc _).grown ZE QXx,HRG.out.2.2⟩);have hN9:=(hN5.alloc (.cells #[.slice a5 n5' OC] 26)).grown ZE QXz;have Cm:=((Jv.below Nt (by omega)).alloc (.cells #[.slice a5 n5' OC] 26)).grown ZE QXW;have TJ:Below w.heap.size w w9:=((QW Xh (by omega) Nt).alloc (by omega) (.cells #[.slice a5 n5' OC] 26)).grown ZE (by omega) (fun k hk=>by have:=qz.out.row k hk;omega);have QZ0:w5.heap.size+1<=w9.heap.size:=by have:=ZE.size;omega
  have AB:∀v ys,Own 3 (w.heap.size+2) w2 v ys->Own 3 (w.heap.size+2) w9 v ys:=fun v ys h=>
   ((Own.kept (h.kept hk4) Nt).alloc (.cells #[.slice a5 n5' OC] 26)).beside (Oh.out.alloc _) (by decide) ZE
  have QXE:Own 3 w4.heap.size w9 (.slice a5 n5' OC) xs:=(oW.alloc (.cells #[.slice a5 n5' OC] 26)).beside (Oh.out.alloc _) (by decide) ZE;have iD:=QQ (show XE (fun k=>w.heap.size+2<=k/\k≠w2.heap.size/\k≠p/\k≠g) w9 (vs2++[.slice a5 n5' OC]) (ls++[xs])from
   XE.append ⟨uy.out.1,fun i hi=>((uy.out.2 i hi).LF (AB _ _ (uy.out.2 i hi))).imp (fun k hk=>by omega)⟩ (XE.one (QXE.xB.imp (fun k hk=>by omega))))
  have QU1:=QQ ((aA.out.LF (AB _ _ aA.out)).imp (Q:=fun k=>w.heap.size+2<=k/\k≠w2.heap.size/\k≠p/\k≠g) (fun k hk=>by omega));have QYF:=QQ (o9.PN.imp (Q:=fun k=>k≠p/\k≠g) (fun k hk=>by
   rcases QXN with h|h
   ·rw[h]at hk;have:=ZW qz.out k hk;omega
   ·rw[h]at hk;simp only[Qv]at hk;omega))
  have hn9:n9=ln+1:=by have:=o9.vs.get.1;simp only[QE,ZK,List.length_nil]at this;have:=QYu.out;omega
  have aC:=QQ (show(vs2++[Value.slice a5 n5' OC]).length=n9 from o9.vs.get.1);have Od:=QQ (show(ls++[xs]).length=n9 by rw[<-iD.out.1];exact aC.out);have QU8:=QQ hn9;have Qzy:n9<=n+1:=by omega
  clear hn9 QXN oW o9 QXE AB ZE QXq QXx QXz QXW f0 f1 f2 f3 f4 f5 fa0 fa1 fa2 fa3 fa4 fa5 n0 n1 n2 n3 n4 n5;have QYb:=QQ (show∃al:List Value,vs2++[Value.slice a5 n5' OC]=al from⟨_,rfl⟩);obtain⟨al,hal⟩:=QYb.out;rw[hal]at iD QYF aC;clear QYb;have HAL:=QQ hal;clear hal;simp only[List.getElem_toArray,List.getElem_cons_succ,List.getElem_cons_zero,Act.put,QZ,QY,QX];go_wp2
  go_loopw [36] (fun i wr=>∃k:Nat,i=.int .i64 (k:Int)/\k<=n9/\Hid (aU wr p g n al k)/\zU p g w9 wr/\Below w.heap.size w wr) (fun i _=>n9-(intOf i).toNat)
  case atStart=>exact⟨0,rfl,by omega,.inl ⟨by omega,_,QUp.out,fun i hi=>by omega⟩,zU.refl _ _ _,TJ⟩
  case round=>
   obtain⟨k,rfl,hk,HPU,Eo,Yx⟩:=hrel;by_cases hlt:k<n9
   ·obtain⟨va,vn,vc,hv1,hv2,hv3,hv4,hv5,hv6,hv7⟩:=QYF.out.keep (w':=wr) (fun q v hq hc=>Eo.cell hq.1 hq.2 hc)
    simp only[Qw]at hv1;obtain⟨rfl,rfl,rfl⟩:=hv1;obtain⟨b1,o1,rfl,hc⟩:=hv5.at (k:=k) (by rw[aC.out];exact hlt);have e1:=hc k (by rw[aC.out];exact hlt);obtain⟨ya,yn,yc,hy⟩:=(iD.out.2 k (by rw[Od.out];exact hlt)).form;rw[hy]at e1;have HY:=QQ hy;clear hc hv2 hv3 hv4 hv5 hv6 hv7 hy;rcases HPU with⟨hkn,slots,hr,hs⟩|⟨hkn,slots,hr,hs0,hs⟩
    ·rcases Qi k n with hkn'|hkn'
     ·have HS:=QQ hs
      have QXZ:place n 0 k=k:=by unfold place;split<;>omega
      have PY:=QQ (Dl p n 0 k g ya yn yc wr slots hr (by omega) hkn' (by omega));have HR:=QQ hr;rw[QXZ]at PY;clear hs hr QXZ;go_wp2_with ((go_at_call 197);refine PY.out.mono ?_;rintro e w' ⟨rfl,q,rfl⟩)
      go_roundw
      case rel=>exact⟨k+1,by go_num,by omega,.inl ⟨by omega,_,HR.out.QZH ⟨ya,yn,yc,rfl⟩ q k,fun i hi=>by
       by_cases e:k=i
       ·subst e;rw[Z9 (by rw[HR.out.2.2.1];exact hkn'),HY.out]
       ·rw[Qu e];exact HS.out i (by omega)⟩,((Eo.set (a:=⟨g,k,none⟩) (.inr rfl) _).set (a:=⟨p,2,none⟩) (.inl rfl) _).drewN q,below_drewN ((Yx.setCell (p:=⟨g,k,none⟩) (by show w.heap.size<=g;omega) _).setCell (p:=⟨p,2,none⟩) (by show w.heap.size<=p;omega) _) q⟩
      case measure=>simp[intOf];omega
     ·obtain rfl:k=n:=by omega
      have HS:=QQ hs;have PY:=QQ (Di p k 0 g ya yn yc wr slots hr (by omega) (by omega));have HR:=QQ hr;clear hs hr;go_wp2_with ((go_at_call 197);refine PY.out.mono ?_;rintro e w' ⟨rfl,q,rfl⟩)
      go_roundw
      case rel=>exact⟨k+1,by go_num,by omega,.inr ⟨rfl,_,HR.out.QZG ⟨ya,yn,yc,rfl⟩ q 0 (place k 0 1),by rw[Z9 (by rw[HR.out.2.2.1];omega),HY.out],fun i h1 h2=>by
       rw[Qu (by omega)];exact HS.out i h2⟩,((Eo.set (a:=⟨g,0,none⟩) (.inr rfl) _).set (a:=⟨p,1,none⟩) (.inl rfl) _).drewN q,below_drewN ((Yx.setCell (p:=⟨g,0,none⟩) (by show w.heap.size<=g;omega) _).setCell (p:=⟨p,1,none⟩) (by show w.heap.size<=p;omega) _) q⟩
      case measure=>simp[intOf];omega
    ·omega
   ·have hkn:k=n9:=by omega
    subst hkn;obtain⟨f,s,slots,hr,hf,hs,hrv⟩:=HPU.list aC.out hn1;have HRV:=QQ hrv;have HLI:=QQ (Gy p n f s g wr slots hr hf hs (by omega));have hNr:=Eo.blk (B:=w2.heap.size) (by omega) (by omega) hN9;have hRr:=Eo.blk (B:=w.heap.size+1) (by omega) (by omega) Cm;have hzr:wr.heap.size=w9.heap.size:=Eo.1;have HAr:=QQ (iD.out.imp (Q:=fun k=>w.heap.size+2<=k/\k≠w2.heap.size) (w':=wr) (fun v ys h=>(h.keep (w':=wr) (fun q v hq hc=>Eo.cell hq.2.2.1 hq.2.2.2 hc)).imp (fun k hk=>⟨hk.1,hk.2.1⟩)));have HPr:=QQ ((QU1.out.keep (w':=wr) (fun q v hq hc=>Eo.cell hq.2.2.1 hq.2.2.2 hc)).imp (Q:=fun k=>w.heap.size+2<=k/\k≠w2.heap.size) (fun k hk=>⟨hk.1,hk.2.1⟩));clear hrv hr;go_wp2_with ((go_at_call 198);refine HLI.out.mono ?_;rintro e Lx ⟨v10,rfl,Rs,Jj⟩;obtain⟨b10,m10,c10,rfl⟩:=Rs.form;have QYM:=QQ Rs;have QXf:=hNr.below Jj hNr.lt;have rM:=hRr.below Jj hRr.lt;have eO:=Jj.size;have rD:=QW Yx (by omega) Jj;clear Rs;obtain⟨n0,n1,n2,n3,n4,n5⟩:=QXf.six;obtain⟨m0,m1,m2,m3,m4,m5⟩:=QXf.Z7;obtain⟨p0,p1,p2,p3,p4,p5⟩:=rM.six;obtain⟨t0,t1,t2,t3,t4,t5⟩:=rM.Z7)
    have TV:=((rM.other (a:=⟨w2.heap.size,0,none⟩) (by show w.heap.size+1≠w2.heap.size;omega) (.slice b10 m10 c10)).other (a:=⟨w2.heap.size,2,none⟩) (by show w.heap.size+1≠w2.heap.size;omega) (.int .i64 (m10:Int))).other (a:=⟨w2.heap.size,3,none⟩) (by show w.heap.size+1≠w2.heap.size;omega) (.slice none 0 0);obtain⟨y0,y1,y2,y3,y4,y5⟩:=(TV.six' (.slice b10 m10 c10) (.int .i64 (n:Int)) (.int .i64 (m10:Int)) (.slice none 0 0) (.slice ua un uc) (.bool O)).six;refine QV (v:=.tuple #[.agg (Zc (.slice b10 m10 c10) (n:Int) (m10:Int) (.slice none 0 0) (.slice ua un uc) O),.int .i64 0]) (by simp[results,Tryz.results133,go_sem,y0,y1,y2,y3,y4,y5,Zc]) rfl ?_;have hxs:xs≠[]:=by have:=xq.out;rintro rfl;simp at this;omega
    have QzA:ls.length=ln:=yV.out;have hkl:k=ln+1:=QU8.out;have QXp:XE (fun k=>w.heap.size+2<=k/\k≠w2.heap.size) wr (JD n f s slots) (Vm ⟨ls,(n:Int),W,Qm,pat,O⟩ xs):=by
     rw[HRV.out];unfold Vm;rw[if_neg hxs];simp only;by_cases hc:n<k
     ·rw[if_pos hc,if_pos (by omega)];exact HAr.out.drop 1
     ·rw[if_neg hc,if_neg (by omega)];exact HAr.out
    have hml:m10=(Vm ⟨ls,(n:Int),W,Qm,pat,O⟩ xs).length:=by
     rw[<-QXp.1];exact QYM.out.vs.get.1.symm
    have hAH:VV ⟨ls,(n:Int),W,Qm,pat,O⟩ xs=⟨Vm ⟨ls,(n:Int),W,Qm,pat,O⟩ xs,(n:Int),(m10:Int),[],pat,O⟩:=by
     unfold VV;rw[hml]
    rw[hAH];have rC:=((rD.setCell (p:=⟨w2.heap.size,0,none⟩) (by show w.heap.size<=w2.heap.size;omega) (.slice b10 m10 c10)).setCell (p:=⟨w2.heap.size,2,none⟩) (by show w.heap.size<=w2.heap.size;omega) (.int .i64 (m10:Int))).setCell (p:=⟨w2.heap.size,3,none⟩) (by show w.heap.size<=w2.heap.size;omega) (.slice none 0 0);have hcl:=fun(q:Addr) (v:Value) (hq:w.heap.size+2<=q.block/\q.block≠w2.heap.size) (hc:Lx.cell? q=some v)=>
     Mj (B:=w.heap.size+1) (u0:=.slice b10 m10 c10) (u1:=.int .i64 (n:Int)) (u2:=.int .i64 (m10:Int)) (u3:=.slice none 0 0) (u4:=.slice ua un uc) (u5:=.bool O) (Qa (Qa (Qa hc (a:=⟨w2.heap.size,0,none⟩) (u:=.slice b10 m10 c10) hq.2) (a:=⟨w2.heap.size,2,none⟩) (u:=.int .i64 (m10:Int)) hq.2) (a:=⟨w2.heap.size,3,none⟩) (u:=.slice none 0 0) hq.2) (by omega)
    exact⟨_,_,_,rfl,⟨⟨JD n f s slots,((QYM.out.vsp.imp (Q:=fun k=>w.heap.size+2<=k/\k≠w2.heap.size) (fun k hk=>by omega)).keep hcl).imp (fun k hk=>by omega),QXp.imp (fun v ys h=>((h.below Jj).keep hcl).imp (fun k hk=>by omega))⟩,rfl,rfl,XH.nil _ _,((HPr.out.below Jj).keep hcl).imp (fun k hk=>by omega),rfl⟩,YB rC (QK _)⟩
def af(R:Hi->Int->Prop)(P:Nat->Prop)(w:World)(e:Ending)(w':World):Prop:=∃h E,R h E/\Fa P h E w e w'
theorem Sn(lv:Value)(most QM:Int)(sv pv:Value)(older:Bool)(h:Hi)(a:Option Addr)(nn c:Nat)(xs:List Int)(w:World)(r:Un w lv most QM sv pv older h)(hx:Ints w a xs)(X0:xs.length=nn)(hx0:a=none->nn=0):
  Calls Tryz.prog 133 #[.agg (Zc lv most QM sv pv older),.slice a nn c] w (af (QQN h xs) (fun k=>w.heap.size<=k) w):=by
 obtain⟨ls,M,W,Qm,pat,O⟩:=h;by_cases hE:qK ⟨ls,M,W,Qm,pat,O⟩=0
 ·rcases Qi 200 nn with hn|hn
  ·exact(kW lv most QM sv pv older ls M W Qm pat O a nn c w r hE hn _).mono fun e w' h=>⟨hi0,2,.inr (.inl ⟨hE,by omega,rfl,rfl⟩),h⟩
  ·rcases Zx nn with h0|h0
   ·exact(kz lv most QM sv pv older ls M W Qm pat O a nn c w r xs hE hx X0 hx0 hn h0).mono fun e w' h=>⟨_,0,.inr (.inr ⟨hE,by omega,rfl,rfl⟩),h⟩
   ·exact(vV lv most QM sv pv older ls M W Qm pat O a nn c w r xs hE hx X0 hx0 hn h0).mono fun e w' h=>⟨_,0,.inr (.inr ⟨hE,by omega,rfl,rfl⟩),h⟩
 ·exact(Ch lv most QM sv pv older ls M W Qm pat O a nn c w r _ rfl hE _).mono fun e w' h=>⟨hi0,_,.inl ⟨hE,rfl,rfl⟩,h⟩
theorem XH.J6{F:Nat->Prop}{w:World}{B i:Nat}{u v:Value}{xs:List Int}(h:XH F w v xs)(hB:¬F B):XH F (w.setCell ⟨B,i,none⟩ u) v xs:=h.setCell hB u
theorem UO.J6{F:Nat->Prop}{w:World}{B i:Nat}{u:Value}{lv:Value}{most QM:Int}{sv pv:Value}{older:Bool}{h:Hi}(r:UO F w lv most QM sv pv older h)(hB:¬F B):UO F (w.setCell ⟨B,i,none⟩ u) lv most QM sv pv older h:=
 r.YZ (ZZ.setCell (a:=⟨B,i,none⟩) hB u) (fun _ h=>h)
theorem At.LC{F0 G0 F:Nat->Prop}{w0 w:World}{B:Nat}{f:Nat->Value}{S:SS}{lv sv pv:Value}{hh:Hi}(h:At F0 G0 w0 F w B f S)(r:UO F w lv hh.most hh.QM sv pv hh.older hh):
  ∃f',At F0 G0 w0 F ((((((w.setCell ⟨B,37,none⟩ lv).setCell ⟨B,38,none⟩ (.int .i64 hh.most)).setCell ⟨B,39,none⟩ (.int .i64 hh.QM)).setCell ⟨B,40,none⟩ sv).setCell ⟨B,41,none⟩ pv).setCell ⟨B,42,none⟩ (.bool hh.older)) B f' {S with Qh:=hh}/\f' 0=f 0:=by
 have nB:=h.hf.m.nB;have g:=h.hf.d.Qh;obtain⟨h1,h2,h3,h4,h5,h6⟩:=S.Qh;have a1:=h.store (S':={S with Qh:=⟨hh.ls,S.Qh.most,S.Qh.QM,S.Qh.Qm,S.Qh.pat,S.Qh.older⟩}) 37 lv {h.hf.d with Qh:=⟨r.ls,rfl,rfl,h.hf.d.Qh.Qm,h.hf.d.Qh.pat,rfl⟩};have r1:=r.J6 (i:=37) (u:=lv) nB;have a2:=a1.store (S':={S with Qh:=⟨hh.ls,hh.most,S.Qh.QM,S.Qh.Qm,S.Qh.pat,S.Qh.older⟩}) 38 (.int .i64 hh.most) {a1.hf.d with Qh:=⟨r1.ls,rfl,rfl,a1.hf.d.Qh.Qm,a1.hf.d.Qh.pat,rfl⟩,MK:=rfl};have r2:=r1.J6 (i:=38) (u:=.int .i64 hh.most) nB;have a3:=a2.store (S':={S with Qh:=⟨hh.ls,hh.most,hh.QM,S.Qh.Qm,S.Qh.pat,S.Qh.older⟩}) 39 (.int .i64 hh.QM) {a2.hf.d with Qh:=⟨r2.ls,rfl,rfl,a2.hf.d.Qh.Qm,a2.hf.d.Qh.pat,rfl⟩,AA:=rfl};have r3:=r2.J6 (i:=39) (u:=.int .i64 hh.QM) nB;have a4:=a3.store (S':={S with Qh:=⟨hh.ls,hh.most,hh.QM,hh.Qm,S.Qh.pat,S.Qh.older⟩}) 40 sv {a3.hf.d with Qh:=⟨r3.ls,rfl,rfl,r3.Qm,a3.hf.d.Qh.pat,rfl⟩};have r4:=r3.J6 (i:=40) (u:=sv) nB;have a5:=a4.store (S':={S with Qh:=⟨hh.ls,hh.most,hh.QM,hh.Qm,hh.pat,S.Qh.older⟩}) 41 pv {a4.hf.d with Qh:=⟨r4.ls,rfl,rfl,r4.Qm,r4.pat,rfl⟩};have r5:=r4.J6 (i:=41) (u:=pv) nB;have a6:=a5.store (S':={S with Qh:=hh}) 42 (.bool hh.older) {a5.hf.d with Qh:=r5,holder:=rfl};exact⟨_,a6,rfl⟩
theorem UT(F G:Nat->Prop)(B:Nat)(S:SS)(lv sv pv:Value)(hh:Hi)(a:Option Addr)(m c:Nat)(l:List Int)(E:Int)(w:World)(h:Zw F G w B S)(r:UO F w lv hh.most hh.QM sv pv hh.older hh)(hl:XH F w (.slice a m c) l)(hm:m<=4096)(hn:S.told.length<=4398046511103):
  Calls Tryz.prog 131 #[.pointer (some ⟨B,0,none⟩),.agg (Zc lv hh.most hh.QM sv pv hh.older),.slice a m c,.int .i64 E] w (VP F G w B (S.moved (hh,l,E)) XU):=by
 obtain⟨f,hf⟩:=h;have hA:=At.begin hf;unfold Zc;obtain⟨o,hv1,hlv⟩:∃(o:Option Addr×Nat×Nat),lv=.slice o.1 o.2.1 o.2.2/\True:=by
  obtain⟨vs,h1,-⟩:=r.ls;obtain⟨a,n,c,e,-⟩:=h1;exact⟨(a,n,c),e,trivial⟩
 obtain⟨la,ln,lc⟩:=o;obtain⟨sa,sn,sc,rfl⟩:=r.Qm.form;obtain⟨pa,pn,pc,rfl⟩:=r.pat.form;dsimp only at hv1;subst hv1;have hbx:=fun W:World=>QC W (.cells #[.slice la ln lc,.int .i64 hh.most,.int .i64 hh.QM,.slice sa sn sc,.slice pa pn pc,.bool hh.older] 65)
 have hR:=QD.new w #[.slice la ln lc,.int .i64 hh.most,.int .i64 hh.QM,.slice sa sn sc,.slice pa pn pc,.bool hh.older] 65;have hBl:=hf.yH;by_cases hE:E=0
 ·subst hE
  obtain⟨f',hA2,-⟩:=hA.LC r;have hA3:=hA2.Xw (hbx _);have hl2:=((((((hl.J6 (i:=37) (u:=.slice la ln lc) hA.hf.m.nB).J6 (i:=38) (u:=.int .i64 hh.most) hA.hf.m.nB).J6 (i:=39) (u:=.int .i64 hh.QM) hA.hf.m.nB).J6 (i:=40) (u:=.slice sa sn sc) hA.hf.m.nB).J6 (i:=41) (u:=.slice pa pn pc) hA.hf.m.nB).J6 (i:=42) (u:=.bool hh.older) hA.hf.m.nB).below (hbx _);have HT:=QQ (jX F (Gx G w _) B {S with Qh:=hh} a m c l 0 _ ⟨f',hA3.hf⟩ hl2.sl hm (.inl rfl));have HA2:=QQ hA3;obtain⟨y0,y1,y2,y3,y4,y5⟩:_/\_/\_/\_/\_/\_:=⟨hR.cell 0,hR.cell 1,hR.cell 2,hR.cell 3,hR.cell 4,hR.cell 5⟩;simp only[List.getElem?_toArray,List.getElem?_cons_zero,List.getElem?_cons_succ]at y0 y1 y2 y3 y4 y5;obtain⟨c37,z37⟩:=hf.m.blk.at 37;obtain⟨c38,z38⟩:=hf.m.blk.at 38;obtain⟨c39,z39⟩:=hf.m.blk.at 39;obtain⟨c40,z40⟩:=hf.m.blk.at 40;obtain⟨c41,z41⟩:=hf.m.blk.at 41;obtain⟨c42,z42⟩:=hf.m.blk.at 42;have he:S.moved (hh,l,0)=({S with Qh:=hh}).YP l 0:=rfl;rw[he];clear hf hA hA2 hA3 hR r hl hl2 he hbx;go_enter Tryz.func131,Tryz.ntmps131
  go_wp2_with fail
  refine HT.out.mono ?_;rintro e w2 ⟨rfl,hv⟩;obtain⟨F',f3,hA3,-,-⟩:=HA2.out.call hv;exact QAa
 ·have hA1:=hA.Xw (hbx w)
  have HT:=QQ (Kv F (Gx G w _) B S _ ⟨f,hA1.hf⟩ hn);have HA1:=QQ hA1;have he:S.moved (hh,l,E)=S.Xa:=by unfold SS.moved;rw[if_pos hE]
  rw[he];have hE2:(E !=0)=true:=by simpa using hE
  clear hf hA hA1 hR r hl hbx he hE;go_enter Tryz.func131,Tryz.ntmps131
  go_wp2_with fail
  refine HT.out.mono ?_;rintro e w2 ⟨rfl,hv⟩;obtain⟨F',f3,hA3,-,-⟩:=HA1.out.call hv;exact QAa
theorem Own.cap0{e:TypeId}{base:Nat}{w:World}{a:Option Addr}{n c:Nat}{xs:List Int}(h:Own e base w (.slice a n c) xs):a=none->c=0:=by
 rcases h.2 with⟨hv,_⟩|⟨g,cap,cur,hv,hb,hg,hn,hm,hs,ht⟩
 ·simp only[Qw]at hv
  obtain⟨rfl,rfl,rfl⟩:=hv;exact fun _=>rfl
 ·simp only[Qw]at hv
  obtain⟨rfl,_,rfl⟩:=hv;exact fun e=>by cases e
theorem Nc{xs:List Int}{p mode key b:Int}(h:Ku xs p mode key->Y5 xs false p b):X7 xs p mode key b=X7 xs p mode key (Jy xs false p):=by
 by_cases hu:Ku xs p mode key
 ·rw[Ae (by have:=hu.2.1;omega) hu.2.2.1 (h hu) (Ui xs false p (by have:=hu.2.1;omega))]
 ·exact Ha hu _ _
structure KyP (S:SS) (key:Int) (w wx:World) (L:Nat) (a:Option Addr) (n c:Nat):Prop where
 lo:w.heap.size<=L
 c0:wx.cell? ⟨L,0,none⟩=some (.slice a n c)
 c1:wx.cell? ⟨L,1,none⟩=some (.int .i64 (S.Y3 key).2.1)
 sl:Sl wx (.slice a n c) (S.Y3 key).1
 n4:n<=4096
 XW:Below w.heap.size w wx
theorem lI{B:Nat}{m:Int}{w wa wb:World}(hB:B<w.heap.size)(h:wa.cell? ⟨B,2,none⟩=some (.int .i64 m)/\Below w.heap.size w wa)(hb:Below wa.heap.size wa wb):wb.cell? ⟨B,2,none⟩=some (.int .i64 m)/\Below w.heap.size w wb:=⟨Qk hb _ _ h.1,h.2.trans (hb.mono h.2.size)⟩
theorem pK{B:Nat}{m:Int}{w wa:World}(hB:B<w.heap.size)(h:wa.cell? ⟨B,2,none⟩=some (.int .i64 m)/\Below w.heap.size w wa)(o:Obj):(wa.alloc o).cell? ⟨B,2,none⟩=some (.int .i64 m)/\Below w.heap.size w (wa.alloc o):=lI hB h (QC _ _)
theorem pY{B:Nat}{m:Int}{w wa:World}(h:Below w.heap.size w wa)(hc:w.cell? ⟨B,2,none⟩=some (.int .i64 m))(o:Obj):(wa.alloc o).cell? ⟨B,2,none⟩=some (.int .i64 m)/\Below w.heap.size w (wa.alloc o):=⟨Qk (h.alloc h.size o) _ _ hc,QR.alloc h⟩
theorem pJ{B L:Nat}{m:Int}{w wa:World}(hB:B<w.heap.size)(h:wa.cell? ⟨B,2,none⟩=some (.int .i64 m)/\Below w.heap.size w wa)(hL:w.heap.size<=L)(u v:Value):((wa.setCell ⟨L,0,none⟩ u).setCell ⟨L,1,none⟩ v).cell? ⟨B,2,none⟩=some (.int .i64 m)/\Below w.heap.size w ((wa.setCell ⟨L,0,none⟩ u).setCell ⟨L,1,none⟩ v):=
 ⟨Qa (Qa h.1 (by intro e;simp at e;omega)) (by intro e;simp at e;omega),(h.2.setCell (p:=⟨L,0,none⟩) hL _).setCell (p:=⟨L,1,none⟩) hL _⟩
theorem pQ{Wz n c:Nat}{w6:World}{a:Option Addr}{ys:List Int}(hi:Ints w6 a ys)(hl:ys.length=n)(hc:n<=1000/\n<=c/\c<=9223372036854775807/\(a=none->n=0)/\(True->∀ad,a=some ad->Wz<=ad.block)):XH (fun k=>Wz<=k/\k<w6.heap.size) w6 (.slice a n c) ys:=
 (XH.lt (P:=fun k=>Wz<=k) ⟨a,n,c,rfl,hl,hc.2.1,hc.2.2.1,hi,hc.2.2.2.1,fun ad e _=>hc.2.2.2.2 trivial ad e⟩)
theorem QJ7{S:SS}{key:Int}{w w6:World}{L n c Wz:Nat}{a:Option Addr}(hL:QD w6 L #[.slice none 0 0,.int .i64 0] 30)(hlo:w.heap.size<=L)(hlt:L<Wz)(hs:XH (fun k=>Wz<=k/\k<w6.heap.size) w6 (.slice a n c) (S.Y3 key).1)(hn:n<=1000)(hB:Below w.heap.size w w6):
  KyP S key w ((w6.setCell ⟨L,0,none⟩ (.slice a n c)).setCell ⟨L,1,none⟩ (.int .i64 (S.Y3 key).2.1)) L a n c:=by
 obtain⟨k0,k1,-,-⟩:=((hL.set 0 (.slice a n c)).set 1 (.int .i64 (S.Y3 key).2.1)).two;have hnF:¬(Wz<=L/\L<w6.heap.size):=by omega
 exact⟨hlo,k0,k1,((hs.J6 (i:=0) (u:=.slice a n c) hnF).J6 (i:=1) (u:=.int .i64 (S.Y3 key).2.1) hnF).sl,by omega,(hB.setCell (p:=⟨L,0,none⟩) hlo _).setCell (p:=⟨L,1,none⟩) hlo _⟩
theorem QJ8{S:SS}{key:Int}{w w6:World}{n c Wz:Nat}{a:Option Addr}(hs:XH (fun k=>Wz<=k/\k<w6.heap.size) w6 (.slice a n c) (S.Y3 key).1)(hn:n<=1000)(hB:Below w.heap.size w w6):
  KyP S key w (w6.alloc (.cells #[.slice a n c,.int .i64 (S.Y3 key).2.1] 30)) w6.heap.size a n c:=by
 obtain⟨k0,k1,-,-⟩:=(QD.new w6 #[.slice a n c,.int .i64 (S.Y3 key).2.1] 30).two;exact⟨hB.size,k0,k1,(hs.below (QC _ _)).sl,by omega,QR.alloc hB⟩
theorem jQ(F G:Nat->Prop)(B:Nat)(S:SS)(key:Int)(w:World)(h:Zw F G w B S)(hl:S.text.length<=200)(hp0:0<=S.pos)(hp1:S.pos<=200)(hn:S.told.length<=4398046511103)(hty:∀c ty,S.now=some (c,ty)->ty.length<=4398046511103):
  Calls Tryz.prog 88 #[.pointer (some ⟨B,0,none⟩),.int .i64 key] w (VP F G w B (S.typed key) XU):=by
 by_cases hk:key=27
 ·subst hk
  have HT:=QQ (PR F G B S w h hp0 hp1);have he:S.typed 27=S.leave:=by unfold SS.typed;rw[if_pos rfl]
  rw[he];clear h hl hp0 hp1 hn hty he;go_enter Tryz.func88,Tryz.ntmps88
  go_wp2_with fail
  refine HT.out.mono ?_;rintro e w2 ⟨rfl,hv⟩;exact Qvz
 obtain⟨f,hf⟩:=h;have hA:=At.begin hf;have c2:=hf.cell 2;rw[hf.d.mode]at c2;have yV:=QQ (fun(w':World) (hb:Below w.heap.size w w')=>A9 F _ B S w' ⟨f,(hA.Xw hb).hf⟩ (by omega));have hBl:=hf.yH;have HA:=QQ hA;have bV:=QQ hn;have HTY:=QQ hty;have HL:=QQ hl;have QzF:(key==27)=false:=by simpa using hk
 have HE:=QQ (show S.typed key=(if(S.Y3 key).2.2≠0 then S.Xa else {S.set (S.Y3 key).1 (S.Y3 key).2.1 with now:=S.now.map fun p=>(p.1,p.2++[key])}) by unfold SS.typed;rw[if_neg hk]);have HKF:=QQ (show X7 S.text S.pos S.mode key (Jy S.text false S.pos)=S.Y3 key from rfl);clear hf hA hl hn hty hk hp0 hp1;go_enter Tryz.func88,Tryz.ntmps88
 go_upto_region 2 with fail
 go_cut [4,5] (fun v4 v5 wx=>∃L a n c,v4=.pointer (some ⟨L,0,none⟩)/\v5=.int .i64 (S.Y3 key).2.2/\KyP S key w wx L a n c)
 case first=>
  go_region_held3 (fun w'=>w'.cell? ⟨B,2,none⟩=some (.int .i64 S.mode)/\Below w.heap.size w w') (first|exact⟨c2,(Qx _ _).drew⟩|(with_reducible assumption)|exact lI hBl ‹_› ‹_› | exact pK hBl ‹_› _|exact pY Uw c2 _|exact pJ hBl ‹_› Ht _ _)
   (first|(go_at_call 42;refine(yV.out _ ?_).mono ?_;(·repeat' (first|(with_reducible exact Qx _ _)|(with_reducible refine QR.alloc ?_)|(with_reducible refine QR.drew ?_)));rintro e w5 ⟨v5,rfl,o5,hb5⟩;obtain⟨a5,n5,k5,rfl⟩:=o5.form;have Yu:Below w.heap.size w w5:=(by refine QR.call hb5 ?_;repeat' (first|(with_reducible exact Qx _ _)|(with_reducible refine QR.alloc ?_)|(with_reducible refine QR.drew ?_))))|(go_at_call 136;refine(TN a5 n5 k5 S.text S.pos S.mode key _ ?_ ?_ ?_ ?_ ?_).mono ?_;(·first|exact o5.get.2.1|exact o5.get.2.1.below (QC _ _));(·exact o5.get.1);(·exact o5.cap.1);(·exact o5.cap.2.1);(·exact o5.cap0);rintro e w6 ⟨a6,n6,k6,b6,rfl,hu6,hi6,hl6,hc6,hb6⟩;rw[Nc hu6,HKF.out]at hi6 hl6 ⊢;have hs6:=pQ hi6 hl6 hc6;have Uw:Below w.heap.size w w6:=(by refine QR.call hb6 ?_;repeat' (first|(with_reducible exact Yu)|(with_reducible refine QR.alloc ?_)|(with_reducible refine QR.drew ?_)));have hs5:=Yu.size;(first|(refine qm (P:=QD w6 (w.heap.size) #[.slice none 0 0,.int .i64 0] 30) ?_ ?_;(·repeat' (first|((with_reducible refine X4 ?_);(first|rfl|(simp;done)))|(with_reducible refine QD.Xu hb6 ?_)|(with_reducible refine QD.Xu hb5 ?_)|(with_reducible refine QD.YT ?_)|(with_reducible refine QD.XD ?_)));intro hL6;have QKL:=hL6.lt;have Ht:=QU w.heap.size;obtain⟨h60,h61,k60,k61⟩:=hL6.two)|(refine qm (P:=QD w6 (w5.heap.size) #[.slice none 0 0,.int .i64 0] 30) ?_ ?_;(·repeat' (first|((with_reducible refine X4 ?_);(first|rfl|(simp;done)))|(with_reducible refine QD.Xu hb6 ?_)|(with_reducible refine QD.Xu hb5 ?_)|(with_reducible refine QD.YT ?_)|(with_reducible refine QD.XD ?_)));intro hL6;have QKL:=hL6.lt;have Ht:=hs5;obtain⟨h60,h61,k60,k61⟩:=hL6.two)|skip)))
  all_goals
   go_wp2;go_meet
   first
    | exact⟨_,_,_,_,rfl,rfl,QJ7 hL6 Ht (by have:=hb5.size;simp at this ⊢;try omega) hs6 hc6.1 Uw⟩
    | exact⟨_,_,_,_,rfl,rfl,QJ8 hs6 hc6.1 Uw⟩
 case rest=>
  obtain⟨L,a,n,c,rfl,rfl,hK⟩:=hcut;have hA2:=HA.out.below hK.XW;have l0:=hK.c0;have l1:=hK.c1;by_cases hE:(S.Y3 key).2.2=0
  ·rw[hE]
   have HST:=QQ (Gj _ _ B S a n c (S.Y3 key).1 (S.Y3 key).2.1 wc ⟨f,hA2.hf⟩ hK.sl hK.n4);have he2:S.typed key={S.set (S.Y3 key).1 (S.Y3 key).2.1 with now:=S.now.map fun p=>(p.1,p.2++[key])}:=by rw[HE.out,if_neg (fun e=>e hE)]
   have HA2:=QQ hA2;have HE2:=QQ he2;clear hA2 hK hE he2;go_wp2_with fail
   refine HST.out.mono ?_;rintro e w7 ⟨rfl,hv7⟩;obtain⟨F7,f7,hA3,-,-⟩:=HA2.out.call hv7;obtain⟨iM,v47⟩:=hA3.hf.m.blk.at 47;have CG:=hA3.hf.m.now;have hno:(S.set (S.Y3 key).1 (S.Y3 key).2.1).now=S.now:=rfl;rw[hno]at CG;cases qg:S.now with
   | none=>
    rw[qg]at CG;have CG:f7 47=.pointer none:=CG;rw[CG]at iM;have yz:=QQ hA3;have PK:=QQ qg;clear hA3 hv7 CG qg hno;go_wp2
    go_end0
    exact⟨rfl,by rw[HE2.out,GI PK.out];exact yz.out.done⟩
   | some qq=>
    obtain⟨c7,Dv⟩:=qq;rw[qg]at CG;obtain⟨C7,tv7,h47,q2,q3,q4,q5,q6⟩:=CG;rw[h47]at iM;obtain⟨ta,tn,tc,rfl⟩:=q5.form;have k5:w7.cell? ⟨C7,5,none⟩=some (.slice ta tn tc):=q4.cell 5;have z5:=q4.free 5;have k5':(w7.alloc (.cells #[.int .i64 key] 3)).cell? ⟨C7,5,none⟩=some (.slice ta tn tc):=Qk (QC _ _) _ _ k5;have QqA:(w7.alloc (.cells #[.int .i64 key] 3)).cell? ⟨B,47,none⟩=some (.pointer (some ⟨C7,0,none⟩)):=Qk (QC _ _) _ _ iM;have QZp:=HTY.out c7 Dv qg;have yz:=QQ hA3;have PK:=QQ qg;have HQ5:=QQ q5;have HQ4:=QQ q4;have nV:=QQ h47;have HT7:=QQ QZp;clear hA3 hv7 qg hno q2 q3 q4 q5 q6 h47 QZp;go_upto_region 7 with fail
    go_region_law (first|(refine Ga (by rfl) _ _ rfl 0 (.slice ta tn tc) Dv key _ rfl rfl ((HQ5.out.drew).alloc _) (uY w7.drew (.int .i64 key) 3 rfl) (Nat.lt_of_le_of_lt HT7.out (by decide)) (Qe _) ?_;intro v8 w8 o8 bZ fV;obtain⟨a8,n8,m8,rfl⟩:=o8.form;have JR:K9 w8 B f7:=QD.grown (QD.alloc (show K9 w7.drew B f7 from yz.out.hf.m.blk) (.cells #[.int .i64 key] 3)) bZ (HQ5.out.ZA yz.out.hf.m.blk (by decide));have g47:w8.cell? ⟨B,47,none⟩=some (.pointer (some ⟨C7,0,none⟩)):=(by rw[JR.cell (by omega),nV.out]);have Xp:=QD.grown (QD.alloc (w:=w7.drew) HQ4.out (.cells #[.int .i64 key] 3)) bZ (HQ5.out.ZA HQ4.out (by decide));have g5:w8.cell? ⟨C7,5,none⟩=some (.slice ta tn tc):=Xp.cell 5;have y5:=Xp.free 5;clear Xp))
    all_goals
     go_wp2
     go_end0
     have hT:=yz.out.typ (w1:=w7.drew.alloc (.cells #[.int .i64 key] 3)) (key:=key) PK.out nV.out (HQ4.out.cell 5) (QR.alloc (QR.drew (Qx _ w7))) bZ o8 fV rfl;exact⟨rfl,by rw[HE2.out,PK.out];exact hT.done⟩
  ·have HB:=QQ (Kv _ _ B S wc ⟨f,hA2.hf⟩ bV.out)
   have he2:S.typed key=S.Xa:=by rw[HE.out,if_pos hE]
   have hE2:((S.Y3 key).2.2 !=0)=true:=by simpa using hE
   have HA2:=QQ hA2;have HE2:=QQ he2;clear hA2 hK hE he2;generalize(S.Y3 key).2.2=er at hE2 ⊢;go_wp2_with fail
   refine HB.out.mono ?_;rintro e w7 ⟨rfl,hv⟩;go_wp2
   go_end0
   obtain⟨F',f',hA3,-,-⟩:=HA2.out.call hv;exact⟨rfl,by rw[HE2.out];exact hA3.done⟩
end Go.Proofs.YtmdcencmiopmmaaGreat
