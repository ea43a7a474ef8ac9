/- joined, no condition of its own. -/
import Derived.Test.YtmdnepkekekncaaGreatJfJ23
set_option linter.unusedVariables false
set_option linter.unusedSimpArgs false
set_option maxRecDepth 100000
set_option maxHeartbeats 12000000
namespace Go.Proofs.YtmdnepkekekncaaGreat
open Go.RowKit
theorem GH(lv:Value)(most Zm:Int)(sv pv:Value)(older:Bool)(ls:List (List Int))(M W:Int)(XU pat:List Int)(O:Bool)(a:Option Addr)(nn c:Nat)(a2:Option Addr)(np cq:Nat)(w:World)(r:Wh w lv most Zm sv pv older ⟨ls,M,W,XU,pat,O⟩)(xs:List Int)(ps:List Int)(hE:Xl ⟨ls,M,W,XU,pat,O⟩ nn 0=0)(hok:qP ⟨ls,M,W,XU,pat,O⟩)(hx:Ints w a xs)(Jq:xs.length=nn)(hx0:a=none->nn=0)(hnn:nn<=200)(h0:0<np)(hps:Ints w a2 ps)(hpl:ps.length=np)(hp0:a2=none->np=0)(hnp:np<=200)(hpc:np<=cq)(Td:cq<=9223372036854775807):
  Calls Tryz.prog 80 #[.agg (X7 lv most Zm sv pv older),.slice a nn c,.slice a2 np cq,.bool false] w (jD ⟨ls,M,W,XU,pat,O⟩ xs ps false w):=by
 have HE:=Zy hE;have Jf:=Zy r;have kR:=Zy Jq;have HX0:=Zy hx0;have xK:=Zy hok;obtain⟨w0,wl⟩:0<=W/\W<=ls.length:=⟨hok.VA,hok.Ut⟩;have F8:ls.length<=50:=QE;have LL:=Zy hok.lines;have qY:pat.length<=200:=hok.pat;clear hE Jq hx0 hok;obtain⟨⟨vs,hvs,hls⟩,h1,h2,Xr,Xt,h3⟩:=r;simp only at hls h1 h2 h3 Xr Xt;obtain rfl:M=most:=h1.symm;obtain rfl:W=Zm:=h2.symm;obtain rfl:O=older:=h3.symm;obtain⟨la,ln,lc,rfl,hl1,hl2,hl3,hl4,hl5⟩:=hvs;obtain⟨sa,sn,sc,rfl,hs1,hs2,hs3,hs4,hs5⟩:=Xr;obtain⟨pa,pn,pc,rfl,hp1,hp2,hp3,xJ,UC⟩:=Xt;have hll:ls.length=ln:=Qq;have Wv:=Zy (fun W' r=>Yx (.slice la ln lc) M W (.slice sa sn sc) (.slice pa pn pc) O ⟨ls,M,W,XU,pat,O⟩ a nn c 0 W' r);have DT:=Zy (fun wh uM W' r hx=>qJ (.slice la ln lc) M W (.slice sa sn sc) (.slice pa pn pc) O ⟨ls,M,W,XU,pat,O⟩ a nn c wh xs W' r xK.out hx kR.out HX0.out hnn uM);rw[hll]at wl F8;have hqn:np<=200:=hnp;have hq0:((np:Int)==0)=false:=QY;have HQ:=Zy hpl;have HQ0:=Zy hp0;clear hpl hp0 qY;have ui:=Zy hl1;have Hd:=Zy hls;have Vf:=Zy hll;unfold X7 at *;have hB:=(Za.new w #[.slice la ln lc,.int .i64 M,.int .i64 W,.slice sa sn sc,.slice pa pn pc,.bool O] 85).alloc (.cells #[.slice none 0 0,.int .i64 0,.int .i64 0,.slice none 0 0,.slice none 0 0,.bool false] 85);have hR:=Za.new (w.alloc (.cells #[.slice la ln lc,.int .i64 M,.int .i64 W,.slice sa sn sc,.slice pa pn pc,.bool O] 85)) #[.slice none 0 0,.int .i64 0,.int .i64 0,.slice none 0 0,.slice none 0 0,.bool false] 85;rw[Zu]at hR;have hacc:=Zo w (.cells #[.slice la ln lc,.int .i64 M,.int .i64 W,.slice sa sn sc,.slice pa pn pc,.bool O] 85) (.cells #[.slice none 0 0,.int .i64 0,.int .i64 0,.slice none 0 0,.slice none 0 0,.bool false] 85);have hsz:w.heap.size+2<=((w.alloc (.cells #[.slice la ln lc,.int .i64 M,.int .i64 W,.slice sa sn sc,.slice pa pn pc,.bool O] 85)).alloc (.cells #[.slice none 0 0,.int .i64 0,.int .i64 0,.slice none 0 0,.slice none 0 0,.bool false] 85)).heap.size:=QJ;have HR1:=Zy (Jf.out.below hacc);clear hs1 hp1 hl1 hl5 hs5 UC hll hls Jf;go_enter Tryz.func80,Tryz.ntmps80
 go_upto_region 1 with fail
 change Code.wp _ _ _ _ ((w.alloc (.cells #[.slice la ln lc,.int .i64 M,.int .i64 W,.slice sa sn sc,.slice pa pn pc,.bool O] 85)).alloc (.cells #[.slice none 0 0,.int .i64 0,.int .i64 0,.slice none 0 0,.slice none 0 0,.bool false] 85));generalize((w.alloc (.cells #[.slice la ln lc,.int .i64 M,.int .i64 W,.slice sa sn sc,.slice pa pn pc,.bool O] 85)).alloc (.cells #[.slice none 0 0,.int .i64 0,.int .i64 0,.slice none 0 0,.slice none 0 0,.bool false] 85))=w1 at *;obtain⟨c0,c1,c2,c3,c4,c5⟩:=hB.six;go_wp2_with ((go_at_call 114);refine(Wv.out _ HR1.out).mono ?_;rintro e w2 ⟨rfl,hb2⟩;rw[HE.out];have hB2:=hB.below hb2 hB.lt;obtain⟨d0,d1,d2,d3,d4,d5⟩:=hB2.six;have hR2:=hR.below hb2 hR.lt;obtain⟨p0,p1,p2,p3,p4,p5⟩:=hR2.six;obtain⟨t0,t1,t2,t3,t4,t5⟩:=hR2.YA;have Z0:=ZE hacc QQ hb2;have hlt2:=hB2.lt;have hz2:=hb2.size)
 have HR2:=Zy (HR1.out.below hb2)
 go_loopw [13] (fun i wr=>∃kk:Int,i=.int .i64 kk/\(W<kk/\kk<=ln+1)/\(∀j:Nat,j<ln->Jg false W j->(j:Int)<kk->Ju ps (rx ls j)=false)/\Below w2.heap.size w2 wr) (fun i _=>(ln+1-intOf i).toNat)
 case atStart=>exact⟨_,rfl,QQ,fun j hj hs hb=>Qa,ZH _ _⟩
 case round=>
  obtain⟨kk,rfl,QYf,hno,hbr⟩:=hrel;have JM:=Zy hno;clear hno;have hBr:=hB2.below hbr hB2.lt;obtain⟨r0,r1,r2,r3,r4,r5⟩:=hBr.six;have hRr:=hR2.below hbr hR2.lt;obtain⟨p0,p1,p2,p3,p4,p5⟩:=hRr.six;obtain⟨t0,t1,t2,t3,t4,t5⟩:=hRr.YA;have JL:=ZE Z0 QQ hbr;have hzr:=hbr.size;by_cases hin:0<=kk/\kk<ln
  ·obtain⟨Ti,hin1⟩:=hin
   obtain⟨k,rfl⟩:∃k:Nat,kk=(k:Int):=⟨kk.toNat,QQ⟩;have hkl:k<ln:=QQ;obtain⟨lb,lo,rfl,hlc⟩:=(hl4.below JL).at (k:=k) QC3;have e1:=hlc k QC3;obtain⟨xa,xn,xc,x1,x2,x3,x4,x5,x6⟩:=(Hd.out.below JL).sl k QEk;rw[x1]at e1;have xP:xn<=4096:=Qw;have HXK:=Zy x2;have nO:=Zy (fun W' h1 h2=>zh a2 xa np cq xn xc ps (rx ls k) W' h1 h2 HQ.out HXK.out QQ xP hpc x3 Td x4);have hq:=hps.below JL;have hzz:w.heap.size+2<=wr.heap.size:=QQ;clear x1 x2 x6 hlc;by_cases hfit:Ju ps (rx ls k)=true
   ·go_wp2_with ((go_at_call 115);refine(nO.out _ hq x5).mono ?_;rintro e w5 ⟨rfl,hb5⟩;rw[hfit];have JR:=hBr.below hb5 hBr.lt;obtain⟨s0,s1,s2,s3,s4,s5⟩:=JR.six;have KQ:=hRr.below hb5 hRr.lt;have Yw:=ZE JL QQ hb5;have OB:=ZE hbr QQ hb5;have Ta:=hb5.size;have OZ:=hx.below Yw;have bK:=Zy (HR2.out.below OB);have Oq:k<=ls.length:=QD9)
    refine(DT.out k Oq _ bK.out OZ).mono ?_;rintro e w6 ⟨lv6,rW,pv6,Ht,rfl,jY,RL,hb6⟩;obtain⟨vs6,⟨ra,rn,rc,rfl,-⟩,-⟩:=jY.ls;obtain⟨ta,tn,tc,rfl⟩:=jY.XU.form;obtain⟨ua,un,uc,rfl⟩:=jY.pat.form;have oO:=Zy jY.lt;have oh:=Zy RL.lt;have hz6:=hb6.size;have hq6:=hps.below (ZE (ZE Yw QQ hb6) QQ (ZR w6 (.cells #[.slice ra rn rc,.int .i64 M,.int .i64 (k:Int),.slice ta tn tc,.slice ua un uc,.bool O] 85)));have qU:=JR.below hb6 JR.lt;have OD:=KQ.below hb6 KQ.lt;have lD:=Za.new w6 #[.slice ra rn rc,.int .i64 M,.int .i64 (k:Int),.slice ta tn tc,.slice ua un uc,.bool O] 85;have OX:np<=17592186044416:=QQ;simp only[X7,zP];clear jY RL p0 p1 p2 p3 p4 p5 t0 t1 t2 t3 t4 t5 s0 s1 s2 s3 s4 s5 r0 r1 r2 r3 r4 r5;go_wp2_with ((go_at_call 31);refine(XY a2 np cq ps _ hq6 HQ.out OX HQ0.out).mono ?_;rintro e w7 ⟨v7,rfl,xL,WC⟩;obtain⟨a7,n7,c7,rfl⟩:=xL.form;have lC:=lD.below WC lD.lt;obtain⟨n0,n1,n2,n3,n4,n5⟩:=lC.six;obtain⟨m0,m1,m2,m3,m4,m5⟩:=lC.YA;have hz7:=WC.size;have uq:=(OD.alloc (.cells #[.slice ra rn rc,.int .i64 M,.int .i64 (k:Int),.slice ta tn tc,.slice ua un uc,.bool O] 85)).below WC QY;obtain⟨p0,p1,p2,p3,p4,p5⟩:=uq.six;obtain⟨t0,t1,t2,t3,t4,t5⟩:=uq.YA)
    exact QF8
   ·have zy:Ju ps (rx ls k)=false:=by simpa using hfit
    exact QGF
  ·have hno:zG (fun j=>Ju ps (rx ls j)) false W ls.length:=fun j hj hs=>by
    rw[Vf.out]at hj;exact JM.out j hj hs Qa
   have HN:=Zy hno;have hcs:0<=kk/\(ln:Int)<=kk:=QQ;exact QGW
def VH(h:Hi)(ps:List Int):List Int:=if ps=[]then h.pat else ps
def Y7(h:Hi)(xs ps:List Int)(ol:Bool)(h':Hi)(l:List Int)(E:Int):Prop:=
 (Xl h xs.length 0≠0/\h'=hi0/\l=[]/\E=Xl h xs.length 0)\/
 (Xl h xs.length 0=0/\200<ps.length/\h'=hi0/\l=[]/\E=2)\/
 (Xl h xs.length 0=0/\ps.length<=200/\VH h ps=[]/\h'=hi0/\l=[]/\E=6)\/
 (Xl h xs.length 0=0/\ps.length<=200/\VH h ps≠[]/\∃k,Found (fun j=>Ju (VH h ps) (rx h.ls j)) ol h.Zm h.ls.length k/\h'=eu (zP h xs k) (VH h ps) ol/\l=KA h xs k/\E=0)\/
 (Xl h xs.length 0=0/\ps.length<=200/\VH h ps≠[]/\zG (fun j=>Ju (VH h ps) (rx h.ls j)) ol h.Zm h.ls.length/\h'=hi0/\l=[]/\E=5)
theorem Found.unique{F:Nat->Bool}{o:Bool}{W:Int}{n k k':Nat}(h:Found F o W n k)(g:Found F o W n k'):k=k':=by
 have h1:=h.first k' g.lt g.side
 have h2:=g.first k h.lt h.side
 have h3:=h.hit;have h4:=g.hit;cases o
 all_goals
  simp only[if_true,X3,Zt]at h1 h2;rcases XL k k' with h|h|h
  ·first|(have:=h1 h;simp_all)|(have:=h2 h;simp_all)
  ·exact h
  ·first|(have:=h1 h;simp_all)|(have:=h2 h;simp_all)
theorem Found.no{F:Nat->Bool}{o:Bool}{W:Int}{n k:Nat}(h:Found F o W n k)(g:zG F o W n):False:=by
 have:=g k h.lt h.side;have:=h.hit;simp_all
theorem Y7.unique{h:Hi}{xs ps:List Int}{ol:Bool}{h1 h2:Hi}{l1 l2:List Int}{E1 E2:Int}(a:Y7 h xs ps ol h1 l1 E1)(b:Y7 h xs ps ol h2 l2 E2):h1=h2/\l1=l2/\E1=E2:=by
 rcases a with⟨a1,rfl,rfl,rfl⟩|⟨a1,a2,rfl,rfl,rfl⟩|⟨a1,a2,a3,rfl,rfl,rfl⟩|⟨a1,a2,a3,k,a4,rfl,rfl,rfl⟩|⟨a1,a2,a3,a4,rfl,rfl,rfl⟩<;>
 rcases b with⟨b1,rfl,rfl,rfl⟩|⟨b1,b2,rfl,rfl,rfl⟩|⟨b1,b2,b3,rfl,rfl,rfl⟩|⟨b1,b2,b3,k',b4,rfl,rfl,rfl⟩|⟨b1,b2,b3,b4,rfl,rfl,rfl⟩<;>
 first
  | exact⟨rfl,rfl,rfl⟩
  | exact absurd b1 a1
  | exact absurd a1 b1
  | omega
  | exact absurd a3 b3
  | exact absurd b3 a3
  | exact(a4.no b4).elim
  | exact(b4.no a4).elim
  | (obtain rfl:=a4.unique b4;exact⟨rfl,rfl,rfl⟩)
theorem Eu(lv:Value)(most Zm:Int)(sv pv:Value)(older:Bool)(h:Hi)(a:Option Addr)(nn c:Nat)(xs:List Int)(a2:Option Addr)(np cq:Nat)(ps:List Int)(ol:Bool)(w:World)(r:Wh w lv most Zm sv pv older h)(hx:Ints w a xs)(Jq:xs.length=nn)(hx0:a=none->nn=0)(hps:Ints w a2 ps)(hpl:ps.length=np)(hp0:a2=none->np=0)(hpc:np<=cq)(Td:cq<=9223372036854775807):
  Calls Tryz.prog 80 #[.agg (X7 lv most Zm sv pv older),.slice a nn c,.slice a2 np cq,.bool ol] w (jA (Y7 h xs ps ol) (fun k=>w.heap.size<=k) w):=by
 obtain⟨ls,M,W,XU,pat,O⟩:=h;by_cases hE:Xl ⟨ls,M,W,XU,pat,O⟩ nn 0=0
 ·have hn:nn<=200:=by
   unfold Xl at hE;split at hE
   ·exact absurd hE QI
   ·split at hE
    ·simp at hE
    ·omega
  have hok:qP ⟨ls,M,W,XU,pat,O⟩:=qK (by
   unfold Xl at hE;split at hE
   ·exact hE
   ·rename_i h;simpa using h)
  rcases Z9 200 np with h2|h2
  ·exact(uO lv most Zm sv pv older ls M W XU pat O a nn c a2 np cq ol w r hE h2 _).mono fun e w' h=>⟨hi0,[],2,.inr (.inl ⟨QR,QQ,rfl,rfl,rfl⟩),h⟩
  ·rcases Xf np with h3|h3
   ·have hpe:ps=[]:=ZM QQ
    by_cases hp:pat=[]
    ·exact(BG lv most Zm sv pv older ls M W XU pat O a nn c a2 np cq ol w r hE h3 hp _).mono fun e w' h=>⟨hi0,[],6,.inr (.inr (.inl ⟨QR,QQ,by rw[VH,if_pos hpe];exact hp,rfl,rfl,rfl⟩)),h⟩
    ·have hq:VH ⟨ls,M,W,XU,pat,O⟩ ps=pat:=by rw[VH,if_pos hpe]
     cases ol
     ·refine(GL lv most Zm sv pv older ls M W XU pat O a nn c a2 np cq w r xs hE hok hx Jq hx0 hn h3 hp).mono ?_
      exact QHP
     ·refine(GI lv most Zm sv pv older ls M W XU pat O a nn c a2 np cq w r xs hE hok hx Jq hx0 hn h3 hp).mono ?_
      exact QHP
   ·have hpe:ps≠[]:=by rintro rfl;simp at hpl;omega
    have hq:VH ⟨ls,M,W,XU,pat,O⟩ ps=ps:=by rw[VH,if_neg hpe]
    cases ol
    ·refine(GH lv most Zm sv pv older ls M W XU pat O a nn c a2 np cq w r xs ps hE hok hx Jq hx0 hn h3 hps hpl hp0 h2 hpc Td).mono ?_
     exact QHa
    ·refine(GG lv most Zm sv pv older ls M W XU pat O a nn c a2 np cq w r xs ps hE hok hx Jq hx0 hn h3 hps hpl hp0 h2 hpc Td).mono ?_
     exact QHa
 ·exact(Dq lv most Zm sv pv older ls M W XU pat O a nn c a2 np cq ol w r _ rfl hE _).mono fun e w' h=>⟨hi0,[],_,.inl ⟨QR,rfl,rfl,by rw[Jq]⟩,h⟩
def KN(h:Hi)(xs:List Int)(tu:Bool)(h':Hi)(l:List Int)(E:Int):Prop:=
 ∃h1,Y7 h xs [] (h.older !=tu) h1 l E/\h'=if E=0 then⟨h1.ls,h1.most,h1.Zm,h1.XU,h1.pat,h.older⟩else h1
theorem KN.unique{h:Hi}{xs:List Int}{tu:Bool}{h1 h2:Hi}{l1 l2:List Int}{E1 E2:Int}(a:KN h xs tu h1 l1 E1)(b:KN h xs tu h2 l2 E2):h1=h2/\l1=l2/\E1=E2:=by
 obtain⟨g,a1,rfl⟩:=a;obtain⟨g',b1,rfl⟩:=b;obtain⟨rfl,rfl,rfl⟩:=a1.unique b1;exact⟨rfl,rfl,rfl⟩
theorem BI(lv:Value)(most Zm:Int)(sv pv:Value)(older:Bool)(h:Hi)(a:Option Addr)(nn c:Nat)(xs:List Int)(tu:Bool)(w:World)(r:Wh w lv most Zm sv pv older h)(hx:Ints w a xs)(Jq:xs.length=nn)(hx0:a=none->nn=0):
  Calls Tryz.prog 97 #[.agg (X7 lv most Zm sv pv older),.slice a nn c,.bool tu] w (jA (KN h xs tu) (fun k=>w.heap.size<=k) w):=by
 have Jf:=Zy r;have kR:=Zy Jq;have HX0:=Zy hx0;clear Jq hx0;obtain⟨ls,M,W,XU,pat,O⟩:=h;obtain⟨⟨vs,hvs,hls⟩,h1,h2,Xr,Xt,h3⟩:=r;simp only at hls h1 h2 h3 Xr Xt;obtain rfl:M=most:=h1.symm;obtain rfl:W=Zm:=h2.symm;obtain rfl:O=older:=h3.symm;obtain⟨la,ln,lc,rfl,-⟩:=hvs;obtain⟨sa,sn,sc,rfl,-⟩:=Xr;obtain⟨pa,pn,pc,rfl,-⟩:=Xt;clear hls;have HFI:=Zy (fun W' r hx=>Eu (.slice la ln lc) M W (.slice sa sn sc) (.slice pa pn pc) O ⟨ls,M,W,XU,pat,O⟩ a nn c xs none 0 0 [] (O !=tu) W' r hx kR.out HX0.out (Ints.nil _ _) rfl (fun _=>rfl) (ZB _) QQ);unfold X7 at *;have hB:=(Za.new w #[.slice la ln lc,.int .i64 M,.int .i64 W,.slice sa sn sc,.slice pa pn pc,.bool O] 85).alloc (.cells #[.slice none 0 0,.int .i64 0,.int .i64 0,.slice none 0 0,.slice none 0 0,.bool false] 85);have hR:=Za.new (w.alloc (.cells #[.slice la ln lc,.int .i64 M,.int .i64 W,.slice sa sn sc,.slice pa pn pc,.bool O] 85)) #[.slice none 0 0,.int .i64 0,.int .i64 0,.slice none 0 0,.slice none 0 0,.bool false] 85;rw[Zu]at hR;have hacc:=Zo w (.cells #[.slice la ln lc,.int .i64 M,.int .i64 W,.slice sa sn sc,.slice pa pn pc,.bool O] 85) (.cells #[.slice none 0 0,.int .i64 0,.int .i64 0,.slice none 0 0,.slice none 0 0,.bool false] 85);have hsz:w.heap.size+2<=((w.alloc (.cells #[.slice la ln lc,.int .i64 M,.int .i64 W,.slice sa sn sc,.slice pa pn pc,.bool O] 85)).alloc (.cells #[.slice none 0 0,.int .i64 0,.int .i64 0,.slice none 0 0,.slice none 0 0,.bool false] 85)).heap.size:=QJ;have HR1:=Zy (Jf.out.below hacc);have hx1:=hx.below hacc;clear Jf hx;go_enter Tryz.func97,Tryz.ntmps97
 go_upto_region 1 with fail
 change Code.wp _ _ _ _ ((w.alloc (.cells #[.slice la ln lc,.int .i64 M,.int .i64 W,.slice sa sn sc,.slice pa pn pc,.bool O] 85)).alloc (.cells #[.slice none 0 0,.int .i64 0,.int .i64 0,.slice none 0 0,.slice none 0 0,.bool false] 85));generalize((w.alloc (.cells #[.slice la ln lc,.int .i64 M,.int .i64 W,.slice sa sn sc,.slice pa pn pc,.bool O] 85)).alloc (.cells #[.slice none 0 0,.int .i64 0,.int .i64 0,.slice none 0 0,.slice none 0 0,.bool false] 85))=w1 at *;obtain⟨c0,c1,c2,c3,c4,c5⟩:=hB.six;go_wp2_with fail
 refine(HFI.out _ HR1.out hx1).mono ?_;rintro e w2 ⟨h6,l6,E,hres,lv6,rW,pv6,Ht,rfl,jY,RL,hb2⟩;have QWb:=Zy hres;obtain⟨ls6,M6,W6,QUW,QUA,O6⟩:=h6;simp only[X7]at *;obtain⟨vs6,⟨ra,rn,rc,rfl,-⟩,-⟩:=jY.ls;obtain⟨ta,tn,tc,rfl⟩:=jY.XU.form;obtain⟨ua,un,uc,rfl⟩:=jY.pat.form;have oO:=Zy jY.lt;have oh:=Zy RL.lt;have hz2:=hb2.size;have hB2:=hB.below hb2 hB.lt;obtain⟨d0,d1,d2,d3,d4,d5⟩:=hB2.six;have hR2:=hR.below hb2 hR.lt;have Z0:=ZE hacc QQ hb2;clear jY RL hres c0 c1 c2 c3 c4 c5;have hN:=Za.new w2 #[.slice ra rn rc,.int .i64 M6,.int .i64 W6,.slice ta tn tc,.slice ua un uc,.bool O6] 85;have hRn:=hR2.alloc (.cells #[.slice ra rn rc,.int .i64 M6,.int .i64 W6,.slice ta tn tc,.slice ua un uc,.bool O6] 85);have hBn:=hB2.alloc (.cells #[.slice ra rn rc,.int .i64 M6,.int .i64 W6,.slice ta tn tc,.slice ua un uc,.bool O6] 85);have hk0:=ZR w2 (.cells #[.slice ra rn rc,.int .i64 M6,.int .i64 W6,.slice ta tn tc,.slice ua un uc,.bool O6] 85);have hP3:=oO.out.below hk0;have hN3:=oh.out.below hk0;have Ji:=ZE Z0 QQ hk0;have Ms:=Zy hP3;have Ha:=Zy hN3;clear hP3 hN3 oO oh;go_upto_region 2 with fail
 change Code.wp _ _ _ _ (w2.alloc (.cells #[.slice ra rn rc,.int .i64 M6,.int .i64 W6,.slice ta tn tc,.slice ua un uc,.bool O6] 85));generalize(w2.alloc (.cells #[.slice ra rn rc,.int .i64 M6,.int .i64 W6,.slice ta tn tc,.slice ua un uc,.bool O6] 85))=w3 at *;obtain⟨p0,p1,p2,p3,p4,p5⟩:=hRn.six;obtain⟨t0,t1,t2,t3,t4,t5⟩:=hRn.YA;obtain⟨n0,n1,n2,n3,n4,n5⟩:=hN.six;obtain⟨m0,m1,m2,m3,m4,m5⟩:=hN.YA;obtain⟨q0,q1,q2,q3,q4,q5⟩:=hBn.six;by_cases hE:E=0
 ·have HE:=Zy hE
  have hE':(E==0)=true:=QET;clear hE;go_wp2;have GR:=hRn.other (a:=⟨w2.heap.size,5,none⟩) Q5 (.bool O);obtain⟨y0,y1,y2,y3,y4,y5⟩:=(GR.six' (.slice ra rn rc) (.int .i64 M6) (.int .i64 W6) (.slice ta tn tc) (.slice ua un uc) (.bool O)).six;refine ZC (v:=.tuple #[.agg (X7 (.slice ra rn rc) M6 W6 (.slice ta tn tc) (.slice ua un uc) O),Ht,.int .i64 E]) QES rfl ?_;have Dy:=(Ms.out.setCell (a:=⟨w2.heap.size,5,none⟩) QJ (.bool O)).six (B:=w.heap.size+1) (u0:=.slice ra rn rc) (u1:=.int .i64 M6) (u2:=.int .i64 W6) (u3:=.slice ta tn tc) (u4:=.slice ua un uc) (u5:=.bool O) QQ;obtain⟨vsA,g1,g2⟩:=Dy.ls;exact⟨⟨ls6,M6,W6,QUW,QUA,O⟩,l6,E,⟨_,QWb.out,by rw[if_pos HE.out]⟩,_,_,_,_,rfl,⟨⟨vsA,g1.imp (fun k hk=>QQ),g2.imp (fun _ _ h=>h.imp (fun k hk=>QQ))⟩,rfl,rfl,Dy.XU.imp (fun k hk=>QQ),Dy.pat.imp (fun k hk=>QQ),rfl⟩,((Ha.out.setCell (a:=⟨w2.heap.size,5,none⟩) QJ (.bool O)).six QQ).imp (fun k hk=>QQ),Jd (Ji.setCell (p:=⟨w2.heap.size,5,none⟩) Qv (.bool O)) QQ⟩
 ·have HE:=Zy hE
  have hE':(E==0)=false:=QET;clear hE;go_wp2;obtain⟨y0,y1,y2,y3,y4,y5⟩:=(hRn.six' (.slice ra rn rc) (.int .i64 M6) (.int .i64 W6) (.slice ta tn tc) (.slice ua un uc) (.bool O6)).six;refine ZC (v:=.tuple #[.agg (X7 (.slice ra rn rc) M6 W6 (.slice ta tn tc) (.slice ua un uc) O6),Ht,.int .i64 E]) QES rfl ?_;exact⟨⟨ls6,M6,W6,QUW,QUA,O6⟩,l6,E,⟨_,QWb.out,by rw[if_neg HE.out]⟩,_,_,_,_,rfl,(Ms.out.six QQ).imp (fun k hk=>QQ),(Ha.out.six QQ).imp (fun k hk=>QQ),Jd Ji QQ⟩
end Go.Proofs.YtmdnepkekekncaaGreat
