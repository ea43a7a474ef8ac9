/- joined, no condition of its own. -/
import Derived.Test.YtmdcencmiopmmaaGreatJnT
import Derived.Test.YtmdcencmiopmmaaGreatJnJ23
import Derived.Test.YtmdcencmiopmmaaGreatJnJ24
import Derived.Test.YtmdcencmiopmmaaGreatJnJ25
set_option linter.unusedVariables false
set_option linter.unusedSimpArgs false
set_option maxRecDepth 100000
set_option maxHeartbeats 12000000
namespace Go.Proofs.YtmdcencmiopmmaaGreat
open Go.RowKit
def VU(h:Hi)(ps:List Int):List Int:=if ps=[]then h.pat else ps
def Y4(h:Hi)(xs ps:List Int)(ol:Bool)(h':Hi)(l:List Int)(E:Int):Prop:=
 (Xd h xs.length 0≠0/\h'=hi0/\l=[]/\E=Xd h xs.length 0)\/
 (Xd h xs.length 0=0/\200<ps.length/\h'=hi0/\l=[]/\E=2)\/
 (Xd h xs.length 0=0/\ps.length<=200/\VU h ps=[]/\h'=hi0/\l=[]/\E=6)\/
 (Xd h xs.length 0=0/\ps.length<=200/\VU h ps≠[]/\∃k,Found (fun j=>Jj (VU h ps) (rx h.ls j)) ol h.Zi h.ls.length k/\h'=T9 (zJ h xs k) (VU h ps) ol/\l=Kk h xs k/\E=0)\/
 (Xd h xs.length 0=0/\ps.length<=200/\VU h ps≠[]/\ql (fun j=>Jj (VU h ps) (rx h.ls j)) ol h.Zi h.ls.length/\h'=hi0/\l=[]/\E=5)
theorem Found.unique{F:Nat->Bool}{o:Bool}{W:Int}{n k k':Nat}(h:Found F o W n k)(g:Found F o W n k'):k=k':=by
 have h1:=h.first k' g.lt g.side
 have h2:=g.first k h.lt h.side
 have h3:=h.hit;have h4:=g.hit;cases o
 all_goals
  simp only[if_true,Xn,Zt]at h1 h2;rcases XC k k' with h|h|h
  ·first|(have:=h1 h;simp_all)|(have:=h2 h;simp_all)
  ·exact h
  ·first|(have:=h1 h;simp_all)|(have:=h2 h;simp_all)
theorem Found.no{F:Nat->Bool}{o:Bool}{W:Int}{n k:Nat}(h:Found F o W n k)(g:ql F o W n):False:=by
 have:=g k h.lt h.side;have:=h.hit;simp_all
theorem Y4.unique{h:Hi}{xs ps:List Int}{ol:Bool}{h1 h2:Hi}{l1 l2:List Int}{E1 E2:Int}(a:Y4 h xs ps ol h1 l1 E1)(b:Y4 h xs ps ol h2 l2 E2):h1=h2/\l1=l2/\E1=E2:=by
 rcases a with⟨a1,rfl,rfl,rfl⟩|⟨a1,a2,rfl,rfl,rfl⟩|⟨a1,a2,a3,rfl,rfl,rfl⟩|⟨a1,a2,a3,k,a4,rfl,rfl,rfl⟩|⟨a1,a2,a3,a4,rfl,rfl,rfl⟩<;>
 rcases b with⟨b1,rfl,rfl,rfl⟩|⟨b1,b2,rfl,rfl,rfl⟩|⟨b1,b2,b3,rfl,rfl,rfl⟩|⟨b1,b2,b3,k',b4,rfl,rfl,rfl⟩|⟨b1,b2,b3,b4,rfl,rfl,rfl⟩<;>
 first
  | exact⟨rfl,rfl,rfl⟩
  | exact absurd b1 a1
  | exact absurd a1 b1
  | omega
  | exact absurd a3 b3
  | exact absurd b3 a3
  | exact(a4.no b4).elim
  | exact(b4.no a4).elim
  | (obtain rfl:=a4.unique b4;exact⟨rfl,rfl,rfl⟩)
theorem Cw(lv:Value)(most Zi:Int)(sv pv:Value)(older:Bool)(h:Hi)(a:Option Addr)(nn c:Nat)(xs:List Int)(a2:Option Addr)(np cq:Nat)(ps:List Int)(ol:Bool)(w:World)(r:WB w lv most Zi sv pv older h)(hx:Ints w a xs)(JK:xs.length=nn)(hx0:a=none->nn=0)(hps:Ints w a2 ps)(hpl:ps.length=np)(hp0:a2=none->np=0)(hpc:np<=cq)(Ru:cq<=9223372036854775807):
  Calls Tryz.prog 132 #[.agg (X3 lv most Zi sv pv older),.slice a nn c,.slice a2 np cq,.bool ol] w (yE (Y4 h xs ps ol) (fun k=>w.heap.size<=k) w):=by
 obtain⟨ls,M,W,XQ,pat,O⟩:=h;by_cases hE:Xd ⟨ls,M,W,XQ,pat,O⟩ nn 0=0
 ·have hn:nn<=200:=by
   unfold Xd at hE;split at hE
   ·exact absurd hE QH
   ·split at hE
    ·simp at hE
    ·omega
  have hok:qW ⟨ls,M,W,XQ,pat,O⟩:=We (by
   unfold Xd at hE;split at hE
   ·exact hE
   ·rename_i h;simpa using h)
  rcases Z7 200 np with h2|h2
  ·exact(kI lv most Zi sv pv older ls M W XQ pat O a nn c a2 np cq ol w r hE h2 _).mono fun e w' h=>⟨hi0,[],2,.inr (.inl ⟨QR,QQ,rfl,rfl,rfl⟩),h⟩
  ·rcases XM np with h3|h3
   ·have hpe:ps=[]:=Ze QQ
    by_cases hp:pat=[]
    ·exact(Aq lv most Zi sv pv older ls M W XQ pat O a nn c a2 np cq ol w r hE h3 hp _).mono fun e w' h=>⟨hi0,[],6,.inr (.inr (.inl ⟨QR,QQ,by rw[VU,if_pos hpe];exact hp,rfl,rfl,rfl⟩)),h⟩
    ·have hq:VU ⟨ls,M,W,XQ,pat,O⟩ ps=pat:=by rw[VU,if_pos hpe]
     cases ol
     ·refine(FZ lv most Zi sv pv older ls M W XQ pat O a nn c a2 np cq w r xs hE hok hx JK hx0 hn h3 hp).mono ?_
      exact QEy
     ·refine(FQ lv most Zi sv pv older ls M W XQ pat O a nn c a2 np cq w r xs hE hok hx JK hx0 hn h3 hp).mono ?_
      exact QEy
   ·have hpe:ps≠[]:=by rintro rfl;simp at hpl;omega
    have hq:VU ⟨ls,M,W,XQ,pat,O⟩ ps=ps:=by rw[VU,if_neg hpe]
    cases ol
    ·refine(Ew lv most Zi sv pv older ls M W XQ pat O a nn c a2 np cq w r xs ps hE hok hx JK hx0 hn h3 hps hpl hp0 h2 hpc Ru).mono ?_
     exact QEv
    ·refine(E9 lv most Zi sv pv older ls M W XQ pat O a nn c a2 np cq w r xs ps hE hok hx JK hx0 hn h3 hps hpl hp0 h2 hpc Ru).mono ?_
     exact QEv
 ·exact(Bo lv most Zi sv pv older ls M W XQ pat O a nn c a2 np cq ol w r _ rfl hE _).mono fun e w' h=>⟨hi0,[],_,.inl ⟨QR,rfl,rfl,by rw[JK]⟩,h⟩
def KI(h:Hi)(xs:List Int)(tu:Bool)(h':Hi)(l:List Int)(E:Int):Prop:=
 ∃h1,Y4 h xs [] (h.older !=tu) h1 l E/\h'=if E=0 then⟨h1.ls,h1.most,h1.Zi,h1.XQ,h1.pat,h.older⟩else h1
theorem KI.unique{h:Hi}{xs:List Int}{tu:Bool}{h1 h2:Hi}{l1 l2:List Int}{E1 E2:Int}(a:KI h xs tu h1 l1 E1)(b:KI h xs tu h2 l2 E2):h1=h2/\l1=l2/\E1=E2:=by
 obtain⟨g,a1,rfl⟩:=a;obtain⟨g',b1,rfl⟩:=b;obtain⟨rfl,rfl,rfl⟩:=a1.unique b1;exact⟨rfl,rfl,rfl⟩
theorem Ay(lv:Value)(most Zi:Int)(sv pv:Value)(older:Bool)(h:Hi)(a:Option Addr)(nn c:Nat)(xs:List Int)(tu:Bool)(w:World)(r:WB w lv most Zi sv pv older h)(hx:Ints w a xs)(JK:xs.length=nn)(hx0:a=none->nn=0):
  Calls Tryz.prog 148 #[.agg (X3 lv most Zi sv pv older),.slice a nn c,.bool tu] w (yE (KI h xs tu) (fun k=>w.heap.size<=k) w):=by
 have Ja:=Zy r;have jf:=Zy JK;have HX0:=Zy hx0;clear JK hx0;obtain⟨ls,M,W,XQ,pat,O⟩:=h;obtain⟨⟨vs,hvs,hls⟩,h1,h2,Xl,Xm,h3⟩:=r;simp only at hls h1 h2 h3 Xl Xm;obtain rfl:M=most:=h1.symm;obtain rfl:W=Zi:=h2.symm;obtain rfl:O=older:=h3.symm;obtain⟨la,ln,lc,rfl,-⟩:=hvs;obtain⟨sa,sn,sc,rfl,-⟩:=Xl;obtain⟨pa,pn,pc,rfl,-⟩:=Xm;clear hls;have HFI:=Zy (fun W' r hx=>Cw (.slice la ln lc) M W (.slice sa sn sc) (.slice pa pn pc) O ⟨ls,M,W,XQ,pat,O⟩ a nn c xs none 0 0 [] (O !=tu) W' r hx jf.out HX0.out (Ints.nil _ _) rfl (fun _=>rfl) (ZB _) QQ);unfold X3 at *;have hB:=(Za.new w #[.slice la ln lc,.int .i64 M,.int .i64 W,.slice sa sn sc,.slice pa pn pc,.bool O] 65).alloc (.cells #[.slice none 0 0,.int .i64 0,.int .i64 0,.slice none 0 0,.slice none 0 0,.bool false] 65);have hR:=Za.new (w.alloc (.cells #[.slice la ln lc,.int .i64 M,.int .i64 W,.slice sa sn sc,.slice pa pn pc,.bool O] 65)) #[.slice none 0 0,.int .i64 0,.int .i64 0,.slice none 0 0,.slice none 0 0,.bool false] 65;rw[Zv]at hR;have hacc:=Zn w (.cells #[.slice la ln lc,.int .i64 M,.int .i64 W,.slice sa sn sc,.slice pa pn pc,.bool O] 65) (.cells #[.slice none 0 0,.int .i64 0,.int .i64 0,.slice none 0 0,.slice none 0 0,.bool false] 65);have hsz:w.heap.size+2<=((w.alloc (.cells #[.slice la ln lc,.int .i64 M,.int .i64 W,.slice sa sn sc,.slice pa pn pc,.bool O] 65)).alloc (.cells #[.slice none 0 0,.int .i64 0,.int .i64 0,.slice none 0 0,.slice none 0 0,.bool false] 65)).heap.size:=QJ;have HR1:=Zy (Ja.out.below hacc);have hx1:=hx.below hacc;clear Ja hx;go_enter Tryz.func148,Tryz.ntmps148
 go_upto_region 1 with fail
 change Code.wp _ _ _ _ ((w.alloc (.cells #[.slice la ln lc,.int .i64 M,.int .i64 W,.slice sa sn sc,.slice pa pn pc,.bool O] 65)).alloc (.cells #[.slice none 0 0,.int .i64 0,.int .i64 0,.slice none 0 0,.slice none 0 0,.bool false] 65));generalize((w.alloc (.cells #[.slice la ln lc,.int .i64 M,.int .i64 W,.slice sa sn sc,.slice pa pn pc,.bool O] 65)).alloc (.cells #[.slice none 0 0,.int .i64 0,.int .i64 0,.slice none 0 0,.slice none 0 0,.bool false] 65))=w1 at *;obtain⟨c0,c1,c2,c3,c4,c5⟩:=hB.six;go_wp2_with fail
 refine(HFI.out _ HR1.out hx1).mono ?_;rintro e w2 ⟨h6,l6,E,hres,lv6,il,pv6,Fh,rfl,yU,OM,hb2⟩;have QUQ:=Zy hres;obtain⟨ls6,M6,W6,QYr,QY5,O6⟩:=h6;simp only[X3]at *;obtain⟨vs6,⟨ra,rn,rc,rfl,-⟩,-⟩:=yU.ls;obtain⟨ta,tn,tc,rfl⟩:=yU.XQ.form;obtain⟨ua,un,uc,rfl⟩:=yU.pat.form;have gm:=Zy yU.lt;have gp:=Zy OM.lt;have hz2:=hb2.size;have hB2:=hB.below hb2 hB.lt;obtain⟨d0,d1,d2,d3,d4,d5⟩:=hB2.six;have hR2:=hR.below hb2 hR.lt;have Z4:=ZE hacc QQ hb2;clear yU OM hres c0 c1 c2 c3 c4 c5;have hN:=Za.new w2 #[.slice ra rn rc,.int .i64 M6,.int .i64 W6,.slice ta tn tc,.slice ua un uc,.bool O6] 65;have hRn:=hR2.alloc (.cells #[.slice ra rn rc,.int .i64 M6,.int .i64 W6,.slice ta tn tc,.slice ua un uc,.bool O6] 65);have nG:=hB2.alloc (.cells #[.slice ra rn rc,.int .i64 M6,.int .i64 W6,.slice ta tn tc,.slice ua un uc,.bool O6] 65);have hk0:=ZT w2 (.cells #[.slice ra rn rc,.int .i64 M6,.int .i64 W6,.slice ta tn tc,.slice ua un uc,.bool O6] 65);have hP3:=gm.out.below hk0;have nA:=gp.out.below hk0;have Ji:=ZE Z4 QQ hk0;have LC:=Zy hP3;have FO:=Zy nA;clear hP3 nA gm gp;go_upto_region 2 with fail
 change Code.wp _ _ _ _ (w2.alloc (.cells #[.slice ra rn rc,.int .i64 M6,.int .i64 W6,.slice ta tn tc,.slice ua un uc,.bool O6] 65));generalize(w2.alloc (.cells #[.slice ra rn rc,.int .i64 M6,.int .i64 W6,.slice ta tn tc,.slice ua un uc,.bool O6] 65))=w3 at *;obtain⟨p0,p1,p2,p3,p4,p5⟩:=hRn.six;obtain⟨t0,t1,t2,t3,t4,t5⟩:=hRn.Yy;obtain⟨n0,n1,n2,n3,n4,n5⟩:=hN.six;obtain⟨m0,m1,m2,m3,m4,m5⟩:=hN.Yy;obtain⟨q0,q1,q2,q3,q4,q5⟩:=nG.six;by_cases hE:E=0
 ·have HE:=Zy hE
  have hE':(E==0)=true:=QBC;clear hE;go_wp2;have FJ:=hRn.other (a:=⟨w2.heap.size,5,none⟩) Q5 (.bool O);obtain⟨y0,y1,y2,y3,y4,y5⟩:=(FJ.six' (.slice ra rn rc) (.int .i64 M6) (.int .i64 W6) (.slice ta tn tc) (.slice ua un uc) (.bool O)).six;refine ZC (v:=.tuple #[.agg (X3 (.slice ra rn rc) M6 W6 (.slice ta tn tc) (.slice ua un uc) O),Fh,.int .i64 E]) QBk rfl ?_;have Bw:=(LC.out.setCell (a:=⟨w2.heap.size,5,none⟩) QJ (.bool O)).six (B:=w.heap.size+1) (u0:=.slice ra rn rc) (u1:=.int .i64 M6) (u2:=.int .i64 W6) (u3:=.slice ta tn tc) (u4:=.slice ua un uc) (u5:=.bool O) QQ;obtain⟨vsA,g1,g2⟩:=Bw.ls;exact⟨⟨ls6,M6,W6,QYr,QY5,O⟩,l6,E,⟨_,QUQ.out,by rw[if_pos HE.out]⟩,_,_,_,_,rfl,⟨⟨vsA,g1.imp (fun k hk=>QQ),g2.imp (fun _ _ h=>h.imp (fun k hk=>QQ))⟩,rfl,rfl,Bw.XQ.imp (fun k hk=>QQ),Bw.pat.imp (fun k hk=>QQ),rfl⟩,((FO.out.setCell (a:=⟨w2.heap.size,5,none⟩) QJ (.bool O)).six QQ).imp (fun k hk=>QQ),Jd (Ji.setCell (p:=⟨w2.heap.size,5,none⟩) Qv (.bool O)) QQ⟩
 ·have HE:=Zy hE
  have hE':(E==0)=false:=QBC;clear hE;go_wp2;obtain⟨y0,y1,y2,y3,y4,y5⟩:=(hRn.six' (.slice ra rn rc) (.int .i64 M6) (.int .i64 W6) (.slice ta tn tc) (.slice ua un uc) (.bool O6)).six;refine ZC (v:=.tuple #[.agg (X3 (.slice ra rn rc) M6 W6 (.slice ta tn tc) (.slice ua un uc) O6),Fh,.int .i64 E]) QBk rfl ?_;exact⟨⟨ls6,M6,W6,QYr,QY5,O6⟩,l6,E,⟨_,QUQ.out,by rw[if_neg HE.out]⟩,_,_,_,_,rfl,(LC.out.six QQ).imp (fun k hk=>QQ),(FO.out.six QQ).imp (fun k hk=>QQ),Jd Ji QQ⟩
end Go.Proofs.YtmdcencmiopmmaaGreat
