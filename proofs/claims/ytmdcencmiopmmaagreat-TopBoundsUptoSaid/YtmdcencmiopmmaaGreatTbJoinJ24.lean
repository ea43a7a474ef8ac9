/- LiftTopBounds: joined, no condition of its own. -/
import Derived.Test.YtmdcencmiopmmaaGreatTbJoinT
import Derived.Test.YtmdcencmiopmmaaGreatTbJoinJ21
import Derived.Test.YtmdcencmiopmmaaGreatTbJoinJ22
import Derived.Test.YtmdcencmiopmmaaGreatTbJoinJ23
set_option linter.unusedVariables false
set_option linter.unusedSimpArgs false
set_option maxRecDepth 100000
set_option maxHeartbeats 12000000
namespace Go.Proofs.YtmdcencmiopmmaaGreat
open Go.RowKit
theorem Cc(lv:Value)(most QM:Int)(sv pv:Value)(older:Bool)(ls:List (List Int))(M W:Int)(Qm pat:List Int)(O:Bool)(a:Option Addr)(nn c:Nat)(a2:Option Addr)(np cq:Nat)(w:World)(r:Un w lv most QM sv pv older ⟨ls,M,W,Qm,pat,O⟩)(xs:List Int)(ps:List Int)(hE:ZC ⟨ls,M,W,Qm,pat,O⟩ nn 0=0)(hok:VE ⟨ls,M,W,Qm,pat,O⟩)(hx:Ints w a xs)(X0:xs.length=nn)(hx0:a=none->nn=0)(hnn:nn<=200)(h0:0<np)(hps:Ints w a2 ps)(hpl:ps.length=np)(hp0:a2=none->np=0)(hnp:np<=200)(hpc:np<=cq)(Ni:cq<=9223372036854775807):
  Calls Tryz.prog 132 #[.agg (Zc lv most QM sv pv older),.slice a nn c,.slice a2 np cq,.bool false] w (zJ ⟨ls,M,W,Qm,pat,O⟩ xs ps false w):=by
 have HE:=QQ hE;have YD:=QQ r;have xq:=QQ X0;have HX0:=QQ hx0;have GQ:=QQ hok;obtain⟨w0,wl⟩:0<=W/\W<=ls.length:=⟨hok.KR,hok.Ky⟩;have CJ:ls.length<=50:=by have:=hok.len;have:=hok.JH;simp only at *;omega
 have LL:=QQ hok.lines;have U6:pat.length<=200:=hok.pat;clear hE X0 hx0 hok;obtain⟨⟨vs,hvs,hls⟩,h1,h2,ZI,ZL,h3⟩:=r;simp only at hls h1 h2 h3 ZI ZL;obtain rfl:M=most:=h1.symm;obtain rfl:W=QM:=h2.symm;obtain rfl:O=older:=h3.symm;obtain⟨la,ln,lc,rfl,hl1,hl2,hl3,hl4,hl5⟩:=hvs;obtain⟨sa,sn,sc,rfl,hs1,hs2,hs3,hs4,hs5⟩:=ZI;obtain⟨pa,pn,pc,rfl,hp1,hp2,hp3,Wl,Jh⟩:=ZL;have hll:ls.length=ln:=by rw[<-hls.len];exact hl1
 have UL:=QQ (fun W' r=>Z0 (.slice la ln lc) M W (.slice sa sn sc) (.slice pa pn pc) O ⟨ls,M,W,Qm,pat,O⟩ a nn c 0 W' r);have FL:=QQ (fun wh xm W' r hx=>U7 (.slice la ln lc) M W (.slice sa sn sc) (.slice pa pn pc) O ⟨ls,M,W,Qm,pat,O⟩ a nn c wh xs W' r GQ.out hx xq.out HX0.out hnn xm);rw[hll]at wl CJ;have hqn:np<=200:=hnp;have hq0:((np:Int)==0)=false:=by simp;omega
 have HQ:=QQ hpl;have HQ0:=QQ hp0;clear hpl hp0 U6;have vI:=QQ hl1;have Dy:=QQ hls;have Kt:=QQ hll;unfold Zc at *;have hB:=(QD.new w #[.slice la ln lc,.int .i64 M,.int .i64 W,.slice sa sn sc,.slice pa pn pc,.bool O] 65).alloc (.cells #[.slice none 0 0,.int .i64 0,.int .i64 0,.slice none 0 0,.slice none 0 0,.bool false] 65);have hR:=QD.new (w.alloc (.cells #[.slice la ln lc,.int .i64 M,.int .i64 W,.slice sa sn sc,.slice pa pn pc,.bool O] 65)) #[.slice none 0 0,.int .i64 0,.int .i64 0,.slice none 0 0,.slice none 0 0,.bool false] 65;rw[QJ]at hR;have hacc:=QS w (.cells #[.slice la ln lc,.int .i64 M,.int .i64 W,.slice sa sn sc,.slice pa pn pc,.bool O] 65) (.cells #[.slice none 0 0,.int .i64 0,.int .i64 0,.slice none 0 0,.slice none 0 0,.bool false] 65);have hsz:w.heap.size+2<=((w.alloc (.cells #[.slice la ln lc,.int .i64 M,.int .i64 W,.slice sa sn sc,.slice pa pn pc,.bool O] 65)).alloc (.cells #[.slice none 0 0,.int .i64 0,.int .i64 0,.slice none 0 0,.slice none 0 0,.bool false] 65)).heap.size:=by simp
 have HR1:=QQ (YD.out.below hacc);clear hs1 hp1 hl1 hl5 hs5 Jh hll hls YD;go_enter Tryz.func132,Tryz.ntmps132
 go_upto_region 1 with fail
 change Code.wp _ _ _ _ ((w.alloc (.cells #[.slice la ln lc,.int .i64 M,.int .i64 W,.slice sa sn sc,.slice pa pn pc,.bool O] 65)).alloc (.cells #[.slice none 0 0,.int .i64 0,.int .i64 0,.slice none 0 0,.slice none 0 0,.bool false] 65));generalize((w.alloc (.cells #[.slice la ln lc,.int .i64 M,.int .i64 W,.slice sa sn sc,.slice pa pn pc,.bool O] 65)).alloc (.cells #[.slice none 0 0,.int .i64 0,.int .i64 0,.slice none 0 0,.slice none 0 0,.bool false] 65))=w1 at *;obtain⟨c0,c1,c2,c3,c4,c5⟩:=hB.six;go_wp2_with ((go_at_call 191);refine(UL.out _ HR1.out).mono ?_;rintro e w2 ⟨rfl,hb2⟩;rw[HE.out];have hB2:=hB.below hb2 hB.lt;obtain⟨d0,d1,d2,d3,d4,d5⟩:=hB2.six;have hR2:=hR.below hb2 hR.lt;obtain⟨p0,p1,p2,p3,p4,p5⟩:=hR2.six;obtain⟨t0,t1,t2,t3,t4,t5⟩:=hR2.Z7;have Qc:=QW hacc (by omega) hb2;have hlt2:=hB2.lt;have hz2:=hb2.size)
 have HR2:=QQ (HR1.out.below hb2)
 go_loopw [13] (fun i wr=>∃kk:Int,i=.int .i64 kk/\(W<kk/\kk<=ln+1)/\(∀j:Nat,j<ln->YE false W j->(j:Int)<kk->X8 ps (rx ls j)=false)/\Below w2.heap.size w2 wr) (fun i _=>(ln+1-intOf i).toNat)
 case atStart=>exact⟨_,rfl,by omega,fun j hj hs hb=>by simp only[YE,if_true,ZM,Qb]at hs;omega,Qx _ _⟩
 case round=>
  obtain⟨kk,rfl,pM,hno,hbr⟩:=hrel;have Yr:=QQ hno;clear hno;have hBr:=hB2.below hbr hB2.lt;obtain⟨r0,r1,r2,r3,r4,r5⟩:=hBr.six;have hRr:=hR2.below hbr hR2.lt;obtain⟨p0,p1,p2,p3,p4,p5⟩:=hRr.six;obtain⟨t0,t1,t2,t3,t4,t5⟩:=hRr.Z7;have Yx:=QW Qc (by omega) hbr;have hzr:=hbr.size;by_cases hin:0<=kk/\kk<ln
  ·obtain⟨Np,hin1⟩:=hin
   obtain⟨k,rfl⟩:∃k:Nat,kk=(k:Int):=⟨kk.toNat,by omega⟩;have hkl:k<ln:=by omega
   obtain⟨lb,lo,rfl,hlc⟩:=(hl4.below Yx).at (k:=k) (by rw[vI.out];exact hkl);have e1:=hlc k (by rw[vI.out];exact hkl);obtain⟨xa,xn,xc,x1,x2,x3,x4,x5,x6⟩:=(Dy.out.below Yx).sl k (by rw[Kt.out];exact hkl);rw[x1]at e1;have Wi:xn<=4096:=by have:=LL.out k (by show k<ls.length;rw[Kt.out];exact hkl);omega
   have HXK:=QQ x2;have aD:=QQ (fun W' h1 h2=>WV a2 xa np cq xn xc ps (rx ls k) W' h1 h2 HQ.out HXK.out (by omega) Wi hpc x3 Ni x4);have hq:=hps.below Yx;have hzz:w.heap.size+2<=wr.heap.size:=by omega
   clear x1 x2 x6 hlc;by_cases hfit:X8 ps (rx ls k)=true
   ·go_wp2_with ((go_at_call 192);refine(aD.out _ hq x5).mono ?_;rintro e w5 ⟨rfl,hb5⟩;rw[hfit];have Yu:=hBr.below hb5 hBr.lt;obtain⟨s0,s1,s2,s3,s4,s5⟩:=Yu.six;have Jv:=hRr.below hb5 hRr.lt;have Xh:=QW Yx (by omega) hb5;have IK:=QW hbr (by omega) hb5;have Ng:=hb5.size;have Hl:=hx.below Xh;have Og:=QQ (HR2.out.below IK);have H6:k<=ls.length:=(by rw[Kt.out];omega))
    refine(FL.out k H6 _ Og.out Hl).mono ?_;rintro e w6 ⟨lv6,cB,pv6,DD,rfl,qf,MJ,hb6⟩;obtain⟨vs6,⟨ra,rn,rc,rfl,-⟩,-⟩:=qf.ls;obtain⟨ta,tn,tc,rfl⟩:=qf.Qm.form;obtain⟨ua,un,uc,rfl⟩:=qf.pat.form;have bW:=QQ qf.lt;have bq:=QQ MJ.lt;have eG:=hb6.size;have pO:=hps.below (QW (QW Xh (by omega) hb6) (by omega) (QC w6 (.cells #[.slice ra rn rc,.int .i64 M,.int .i64 (k:Int),.slice ta tn tc,.slice ua un uc,.bool O] 65)));have Uw:=Yu.below hb6 Yu.lt;have IV:=Jv.below hb6 Jv.lt;have Ty:=QD.new w6 #[.slice ra rn rc,.int .i64 M,.int .i64 (k:Int),.slice ta tn tc,.slice ua un uc,.bool O] 65;have Hm:np<=17592186044416:=by omega
    simp only[Zc,Vw];clear qf MJ p0 p1 p2 p3 p4 p5 t0 t1 t2 t3 t4 t5 s0 s1 s2 s3 s4 s5 r0 r1 r2 r3 r4 r5;go_wp2_with ((go_at_call 43);refine(Ql a2 np cq ps _ pO HQ.out Hm HQ0.out).mono ?_;rintro e w7 ⟨v7,rfl,WT,qU⟩;obtain⟨a7,n7,c7,rfl⟩:=WT.form;have Tx:=Ty.below qU Ty.lt;obtain⟨n0,n1,n2,n3,n4,n5⟩:=Tx.six;obtain⟨m0,m1,m2,m3,m4,m5⟩:=Tx.Z7;have pE:=qU.size;have kF:=(IV.alloc (.cells #[.slice ra rn rc,.int .i64 M,.int .i64 (k:Int),.slice ta tn tc,.slice ua un uc,.bool O] 65)).below qU (by simp;omega);obtain⟨p0,p1,p2,p3,p4,p5⟩:=kF.six;obtain⟨t0,t1,t2,t3,t4,t5⟩:=kF.Z7)
    exact Qkx
   ·have Vg:X8 ps (rx ls k)=false:=by simpa using hfit
    exact Qkn
  ·have hno:Vp (fun j=>X8 ps (rx ls j)) false W ls.length:=fun j hj hs=>by
    rw[Kt.out]at hj;exact Yr.out j hj hs (by simp only[YE,if_true,ZM,Qb]at hs;omega)
   have HN:=QQ hno;have hcs:0<=kk/\(ln:Int)<=kk:=by omega
   exact QkO
def Kb(h:Hi)(ps:List Int):List Int:=if ps=[]then h.pat else ps
def Xe(h:Hi)(xs ps:List Int)(ol:Bool)(h':Hi)(l:List Int)(E:Int):Prop:=
 (ZC h xs.length 0≠0/\h'=hi0/\l=[]/\E=ZC h xs.length 0)\/
 (ZC h xs.length 0=0/\200<ps.length/\h'=hi0/\l=[]/\E=2)\/
 (ZC h xs.length 0=0/\ps.length<=200/\Kb h ps=[]/\h'=hi0/\l=[]/\E=6)\/
 (ZC h xs.length 0=0/\ps.length<=200/\Kb h ps≠[]/\∃k,Found (fun j=>X8 (Kb h ps) (rx h.ls j)) ol h.QM h.ls.length k/\h'=RZ (Vw h xs k) (Kb h ps) ol/\l=Yt h xs k/\E=0)\/
 (ZC h xs.length 0=0/\ps.length<=200/\Kb h ps≠[]/\Vp (fun j=>X8 (Kb h ps) (rx h.ls j)) ol h.QM h.ls.length/\h'=hi0/\l=[]/\E=5)
theorem Found.unique{F:Nat->Bool}{o:Bool}{W:Int}{n k k':Nat}(h:Found F o W n k)(g:Found F o W n k'):k=k':=by
 have h1:=h.first k' g.lt g.side
 have h2:=g.first k h.lt h.side
 have h3:=h.hit;have h4:=g.hit;cases o
 all_goals
  simp only[if_true,ZM,Qb]at h1 h2;rcases ZJ k k' with h|h|h
  ·first|(have:=h1 h;simp_all)|(have:=h2 h;simp_all)
  ·exact h
  ·first|(have:=h1 h;simp_all)|(have:=h2 h;simp_all)
theorem Found.no{F:Nat->Bool}{o:Bool}{W:Int}{n k:Nat}(h:Found F o W n k)(g:Vp F o W n):False:=by
 have:=g k h.lt h.side;have:=h.hit;simp_all
theorem Xe.unique{h:Hi}{xs ps:List Int}{ol:Bool}{h1 h2:Hi}{l1 l2:List Int}{E1 E2:Int}(a:Xe h xs ps ol h1 l1 E1)(b:Xe h xs ps ol h2 l2 E2):h1=h2/\l1=l2/\E1=E2:=by
 rcases a with⟨a1,rfl,rfl,rfl⟩|⟨a1,a2,rfl,rfl,rfl⟩|⟨a1,a2,a3,rfl,rfl,rfl⟩|⟨a1,a2,a3,k,a4,rfl,rfl,rfl⟩|⟨a1,a2,a3,a4,rfl,rfl,rfl⟩<;>
 rcases b with⟨b1,rfl,rfl,rfl⟩|⟨b1,b2,rfl,rfl,rfl⟩|⟨b1,b2,b3,rfl,rfl,rfl⟩|⟨b1,b2,b3,k',b4,rfl,rfl,rfl⟩|⟨b1,b2,b3,b4,rfl,rfl,rfl⟩<;>
 first
  | exact⟨rfl,rfl,rfl⟩
  | exact absurd b1 a1
  | exact absurd a1 b1
  | omega
  | exact absurd a3 b3
  | exact absurd b3 a3
  | exact(a4.no b4).elim
  | exact(b4.no a4).elim
  | (obtain rfl:=a4.unique b4;exact⟨rfl,rfl,rfl⟩)
theorem AF(lv:Value)(most QM:Int)(sv pv:Value)(older:Bool)(h:Hi)(a:Option Addr)(nn c:Nat)(xs:List Int)(a2:Option Addr)(np cq:Nat)(ps:List Int)(ol:Bool)(w:World)(r:Un w lv most QM sv pv older h)(hx:Ints w a xs)(X0:xs.length=nn)(hx0:a=none->nn=0)(hps:Ints w a2 ps)(hpl:ps.length=np)(hp0:a2=none->np=0)(hpc:np<=cq)(Ni:cq<=9223372036854775807):
  Calls Tryz.prog 132 #[.agg (Zc lv most QM sv pv older),.slice a nn c,.slice a2 np cq,.bool ol] w (zQ (Xe h xs ps ol) (fun k=>w.heap.size<=k) w):=by
 obtain⟨ls,M,W,Qm,pat,O⟩:=h;by_cases hE:ZC ⟨ls,M,W,Qm,pat,O⟩ nn 0=0
 ·have hn:nn<=200:=by
   unfold ZC at hE;split at hE
   ·exact absurd hE (by assumption)
   ·split at hE
    ·simp at hE
    ·omega
  have hok:VE ⟨ls,M,W,Qm,pat,O⟩:=U8 (by
   unfold ZC at hE;split at hE
   ·exact hE
   ·rename_i h;simpa using h)
  rcases Qi 200 np with h2|h2
  ·exact(yZ lv most QM sv pv older ls M W Qm pat O a nn c a2 np cq ol w r hE h2 _).mono fun e w' h=>⟨hi0,[],2,.inr (.inl ⟨by rw[X0];exact hE,by omega,rfl,rfl,rfl⟩),h⟩
  ·rcases Zx np with h3|h3
   ·have hpe:ps=[]:=QH (by omega)
    by_cases hp:pat=[]
    ·exact(kJ lv most QM sv pv older ls M W Qm pat O a nn c a2 np cq ol w r hE h3 hp _).mono fun e w' h=>⟨hi0,[],6,.inr (.inr (.inl ⟨by rw[X0];exact hE,by omega,by rw[Kb,if_pos hpe];exact hp,rfl,rfl,rfl⟩)),h⟩
    ·have hq:Kb ⟨ls,M,W,Qm,pat,O⟩ ps=pat:=by rw[Kb,if_pos hpe]
     cases ol
     ·refine(Cf lv most QM sv pv older ls M W Qm pat O a nn c a2 np cq w r xs hE hok hx X0 hx0 hn h3 hp).mono ?_
      exact Qud
     ·refine(Ce lv most QM sv pv older ls M W Qm pat O a nn c a2 np cq w r xs hE hok hx X0 hx0 hn h3 hp).mono ?_
      exact Qud
   ·have hpe:ps≠[]:=by rintro rfl;simp at hpl;omega
    have hq:Kb ⟨ls,M,W,Qm,pat,O⟩ ps=ps:=by rw[Kb,if_neg hpe]
    cases ol
    ·refine(Cc lv most QM sv pv older ls M W Qm pat O a nn c a2 np cq w r xs ps hE hok hx X0 hx0 hn h3 hps hpl hp0 h2 hpc Ni).mono ?_
     exact Quf
    ·refine(Cb lv most QM sv pv older ls M W Qm pat O a nn c a2 np cq w r xs ps hE hok hx X0 hx0 hn h3 hps hpl hp0 h2 hpc Ni).mono ?_
     exact Quf
 ·exact(vK lv most QM sv pv older ls M W Qm pat O a nn c a2 np cq ol w r _ rfl hE _).mono fun e w' h=>⟨hi0,[],_,.inl ⟨by rw[X0];exact hE,rfl,rfl,by rw[X0]⟩,h⟩
def Y7(h:Hi)(xs:List Int)(tu:Bool)(h':Hi)(l:List Int)(E:Int):Prop:=
 ∃h1,Xe h xs [] (h.older !=tu) h1 l E/\h'=if E=0 then⟨h1.ls,h1.most,h1.QM,h1.Qm,h1.pat,h.older⟩else h1
theorem Y7.unique{h:Hi}{xs:List Int}{tu:Bool}{h1 h2:Hi}{l1 l2:List Int}{E1 E2:Int}(a:Y7 h xs tu h1 l1 E1)(b:Y7 h xs tu h2 l2 E2):h1=h2/\l1=l2/\E1=E2:=by
 obtain⟨g,a1,rfl⟩:=a;obtain⟨g',b1,rfl⟩:=b;obtain⟨rfl,rfl,rfl⟩:=a1.unique b1;exact⟨rfl,rfl,rfl⟩
theorem kU(lv:Value)(most QM:Int)(sv pv:Value)(older:Bool)(h:Hi)(a:Option Addr)(nn c:Nat)(xs:List Int)(tu:Bool)(w:World)(r:Un w lv most QM sv pv older h)(hx:Ints w a xs)(X0:xs.length=nn)(hx0:a=none->nn=0):
  Calls Tryz.prog 148 #[.agg (Zc lv most QM sv pv older),.slice a nn c,.bool tu] w (zQ (Y7 h xs tu) (fun k=>w.heap.size<=k) w):=by
 have YD:=QQ r;have xq:=QQ X0;have HX0:=QQ hx0;clear X0 hx0;obtain⟨ls,M,W,Qm,pat,O⟩:=h;obtain⟨⟨vs,hvs,hls⟩,h1,h2,ZI,ZL,h3⟩:=r;simp only at hls h1 h2 h3 ZI ZL;obtain rfl:M=most:=h1.symm;obtain rfl:W=QM:=h2.symm;obtain rfl:O=older:=h3.symm;obtain⟨la,ln,lc,rfl,-⟩:=hvs;obtain⟨sa,sn,sc,rfl,-⟩:=ZI;obtain⟨pa,pn,pc,rfl,-⟩:=ZL;clear hls;have HFI:=QQ (fun W' r hx=>AF (.slice la ln lc) M W (.slice sa sn sc) (.slice pa pn pc) O ⟨ls,M,W,Qm,pat,O⟩ a nn c xs none 0 0 [] (O !=tu) W' r hx xq.out HX0.out (Ints.nil _ _) rfl (fun _=>rfl) (QU _) (by omega));unfold Zc at *;have hB:=(QD.new w #[.slice la ln lc,.int .i64 M,.int .i64 W,.slice sa sn sc,.slice pa pn pc,.bool O] 65).alloc (.cells #[.slice none 0 0,.int .i64 0,.int .i64 0,.slice none 0 0,.slice none 0 0,.bool false] 65);have hR:=QD.new (w.alloc (.cells #[.slice la ln lc,.int .i64 M,.int .i64 W,.slice sa sn sc,.slice pa pn pc,.bool O] 65)) #[.slice none 0 0,.int .i64 0,.int .i64 0,.slice none 0 0,.slice none 0 0,.bool false] 65;rw[QJ]at hR;have hacc:=QS w (.cells #[.slice la ln lc,.int .i64 M,.int .i64 W,.slice sa sn sc,.slice pa pn pc,.bool O] 65) (.cells #[.slice none 0 0,.int .i64 0,.int .i64 0,.slice none 0 0,.slice none 0 0,.bool false] 65);have hsz:w.heap.size+2<=((w.alloc (.cells #[.slice la ln lc,.int .i64 M,.int .i64 W,.slice sa sn sc,.slice pa pn pc,.bool O] 65)).alloc (.cells #[.slice none 0 0,.int .i64 0,.int .i64 0,.slice none 0 0,.slice none 0 0,.bool false] 65)).heap.size:=by simp
 have HR1:=QQ (YD.out.below hacc);have hx1:=hx.below hacc;clear YD hx;go_enter Tryz.func148,Tryz.ntmps148
 go_upto_region 1 with fail
 change Code.wp _ _ _ _ ((w.alloc (.cells #[.slice la ln lc,.int .i64 M,.int .i64 W,.slice sa sn sc,.slice pa pn pc,.bool O] 65)).alloc (.cells #[.slice none 0 0,.int .i64 0,.int .i64 0,.slice none 0 0,.slice none 0 0,.bool false] 65));generalize((w.alloc (.cells #[.slice la ln lc,.int .i64 M,.int .i64 W,.slice sa sn sc,.slice pa pn pc,.bool O] 65)).alloc (.cells #[.slice none 0 0,.int .i64 0,.int .i64 0,.slice none 0 0,.slice none 0 0,.bool false] 65))=w1 at *;obtain⟨c0,c1,c2,c3,c4,c5⟩:=hB.six;go_wp2_with fail
 refine(HFI.out _ HR1.out hx1).mono ?_;rintro e w2 ⟨h6,l6,E,hres,lv6,cB,pv6,DD,rfl,qf,MJ,hb2⟩;have QYG:=QQ hres;obtain⟨ls6,M6,W6,QZA,QZI,O6⟩:=h6;simp only[Zc]at *;obtain⟨vs6,⟨ra,rn,rc,rfl,-⟩,-⟩:=qf.ls;obtain⟨ta,tn,tc,rfl⟩:=qf.Qm.form;obtain⟨ua,un,uc,rfl⟩:=qf.pat.form;have bW:=QQ qf.lt;have bq:=QQ MJ.lt;have hz2:=hb2.size;have hB2:=hB.below hb2 hB.lt;obtain⟨d0,d1,d2,d3,d4,d5⟩:=hB2.six;have hR2:=hR.below hb2 hR.lt;have Qc:=QW hacc (by omega) hb2;clear qf MJ hres c0 c1 c2 c3 c4 c5;have hN:=QD.new w2 #[.slice ra rn rc,.int .i64 M6,.int .i64 W6,.slice ta tn tc,.slice ua un uc,.bool O6] 65;have hRn:=hR2.alloc (.cells #[.slice ra rn rc,.int .i64 M6,.int .i64 W6,.slice ta tn tc,.slice ua un uc,.bool O6] 65);have fG:=hB2.alloc (.cells #[.slice ra rn rc,.int .i64 M6,.int .i64 W6,.slice ta tn tc,.slice ua un uc,.bool O6] 65);have hk0:=QC w2 (.cells #[.slice ra rn rc,.int .i64 M6,.int .i64 W6,.slice ta tn tc,.slice ua un uc,.bool O6] 65);have hP3:=bW.out.below hk0;have fC:=bq.out.below hk0;have YG:=QW Qc (by omega) hk0;have Fw:=QQ hP3;have Dx:=QQ fC;clear hP3 fC bW bq;go_upto_region 2 with fail
 change Code.wp _ _ _ _ (w2.alloc (.cells #[.slice ra rn rc,.int .i64 M6,.int .i64 W6,.slice ta tn tc,.slice ua un uc,.bool O6] 65));generalize(w2.alloc (.cells #[.slice ra rn rc,.int .i64 M6,.int .i64 W6,.slice ta tn tc,.slice ua un uc,.bool O6] 65))=w3 at *;obtain⟨p0,p1,p2,p3,p4,p5⟩:=hRn.six;obtain⟨t0,t1,t2,t3,t4,t5⟩:=hRn.Z7;obtain⟨n0,n1,n2,n3,n4,n5⟩:=hN.six;obtain⟨m0,m1,m2,m3,m4,m5⟩:=hN.Z7;obtain⟨q0,q1,q2,q3,q4,q5⟩:=fG.six;by_cases hE:E=0
 ·have HE:=QQ hE
  have hE':(E==0)=true:=by simpa using hE
  clear hE;go_wp2;have Ci:=hRn.other (a:=⟨w2.heap.size,5,none⟩) (by show w.heap.size+1≠w2.heap.size;omega) (.bool O);obtain⟨y0,y1,y2,y3,y4,y5⟩:=(Ci.six' (.slice ra rn rc) (.int .i64 M6) (.int .i64 W6) (.slice ta tn tc) (.slice ua un uc) (.bool O)).six;refine QV (v:=.tuple #[.agg (Zc (.slice ra rn rc) M6 W6 (.slice ta tn tc) (.slice ua un uc) O),DD,.int .i64 E]) (by simp[results,Tryz.results148,go_sem,y0,y1,y2,y3,y4,y5,Zc]) rfl ?_;have vW:=(Fw.out.setCell (a:=⟨w2.heap.size,5,none⟩) (by simp) (.bool O)).six (B:=w.heap.size+1) (u0:=.slice ra rn rc) (u1:=.int .i64 M6) (u2:=.int .i64 W6) (u3:=.slice ta tn tc) (u4:=.slice ua un uc) (u5:=.bool O) (by omega);obtain⟨vsA,g1,g2⟩:=vW.ls;exact⟨⟨ls6,M6,W6,QZA,QZI,O⟩,l6,E,⟨_,QYG.out,by rw[if_pos HE.out]⟩,_,_,_,_,rfl,⟨⟨vsA,g1.imp (fun k hk=>by omega),g2.imp (fun _ _ h=>h.imp (fun k hk=>by omega))⟩,rfl,rfl,vW.Qm.imp (fun k hk=>by omega),vW.pat.imp (fun k hk=>by omega),rfl⟩,((Dx.out.setCell (a:=⟨w2.heap.size,5,none⟩) (by simp) (.bool O)).six (by omega)).imp (fun k hk=>by omega),YB (YG.setCell (p:=⟨w2.heap.size,5,none⟩) (by show w.heap.size<=w2.heap.size;omega) (.bool O)) (by omega)⟩
 ·have HE:=QQ hE
  have hE':(E==0)=false:=by simpa using hE
  clear hE;go_wp2;obtain⟨y0,y1,y2,y3,y4,y5⟩:=(hRn.six' (.slice ra rn rc) (.int .i64 M6) (.int .i64 W6) (.slice ta tn tc) (.slice ua un uc) (.bool O6)).six;refine QV (v:=.tuple #[.agg (Zc (.slice ra rn rc) M6 W6 (.slice ta tn tc) (.slice ua un uc) O6),DD,.int .i64 E]) (by simp[results,Tryz.results148,go_sem,y0,y1,y2,y3,y4,y5,Zc]) rfl ?_;exact⟨⟨ls6,M6,W6,QZA,QZI,O6⟩,l6,E,⟨_,QYG.out,by rw[if_neg HE.out]⟩,_,_,_,_,rfl,(Fw.out.six (by omega)).imp (fun k hk=>by omega),(Dx.out.six (by omega)).imp (fun k hk=>by omega),YB YG (by omega)⟩
end Go.Proofs.YtmdcencmiopmmaaGreat
