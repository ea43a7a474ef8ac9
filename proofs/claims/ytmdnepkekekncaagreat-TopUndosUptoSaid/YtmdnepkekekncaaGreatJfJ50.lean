/- joined, no condition of its own. -/
import Derived.Test.YtmdnepkekekncaaGreatJfJ49
set_option linter.unusedVariables false
set_option linter.unusedSimpArgs false
set_option maxRecDepth 100000
set_option maxHeartbeats 12000000
namespace Go.Proofs.YtmdnepkekekncaaGreat
open Go.RowKit
theorem TN{S:SS}{v r lv:Value}{rr:List Value}{n:Nat}{wh:Int}(hr:rr.length=27)(w:World):(Instr.field 53 (.agg (Xo (y8 S v r lv rr n wh))) 1).run Tryz.prog w=.ok (.int .i64 S.mode) w:=by
 exact QHM
theorem Az(W w0 w:World)(B N used:Nat)(most:Int)(S:SS)(G:Nat->Prop)(l0:List (Int×List Int))(m0:List Int)(ca cb cc cd ce:Int)(a:Option Addr)(n c:Nat)(l:List Int)(hL:UU w0 w B S G)(hI:UI N used most S l0 m0)(hN:used+1040<=N)(hNb:N<=1048576)(hq:VF S=true)(hx:Ints w0 a l)(hn:l.length=n)(hl:n<=1048576):
  Calls Tryz.prog 17 #[.pointer (some ⟨B,0,none⟩),.agg #[.int .i64 ca,.int .i64 cb,.int .i64 cc,.int .i64 cd,.int .i64 ce],.slice a n c] w (kg W w0 B N used most S G ⟨ca,cb,cc,cd,ce⟩ l w):=by
 have hA:=Za.new w #[.int .i64 ca,.int .i64 cb,.int .i64 cc,.int .i64 cd,.int .i64 ce] 39;have hacc:=ZR w (.cells #[.int .i64 ca,.int .i64 cb,.int .i64 cc,.int .i64 cd,.int .i64 ce] 39);have HL0:=Zy hL;have HI:=Zy hI;have HQ:=Zy hq;have HX:=Zy hx;have HN:=Zy hn;clear hL hI hq hx hn;go_enter Tryz.func17,Tryz.ntmps17
 go_upto_region 1 with fail
 generalize w.alloc (.cells #[.int .i64 ca,.int .i64 cb,.int .i64 cc,.int .i64 cd,.int .i64 ce] 39)=w1 at *;obtain⟨c0,c1,c2,c3,c4⟩:=hA.five;have HB1:=Zy hacc;clear hacc;go_wp2_with fail
 refine(Nn ca cb cc cd ce w1).mono ?_;rintro e w2 ⟨v,rfl,ho,hb2⟩;obtain⟨va,vn,vc,rfl⟩:=ho.form;obtain⟨er,her⟩:∃er,er=oz ⟨ca,cb,cc,cd,ce⟩:=⟨_,rfl⟩;obtain⟨xs,hxs⟩:∃xs,xs=Md ⟨ca,cb,cc,cd,ce⟩:=⟨_,rfl⟩;rw[<-hxs]at ho;rw[<-her];obtain⟨s1,-,-,s4,-⟩:=ho.sl.get;obtain⟨b1,hb1⟩:∃b,b=qF xs:=⟨_,rfl⟩;obtain⟨tb,htb⟩:∃b,b=yC xs:=⟨_,rfl⟩;have hlen:vn<=1048576:=by
  rw[<-s1,hxs];have:=xF ⟨ca,cb,cc,cd,ce⟩;unfold Md
  repeat' split
  all_goals first|omega|simp
 have HT:=Zy (Ay va vn vc xs w2 s4 s1 hlen b1 hb1 tb htb);have HB2:=Zy (HB1.out.trans (hb2.mono HB1.out.size));replace c2:=Zd hb2 _ _ c2;replace c3:=Zd hb2 _ _ c3;clear c0 c1 c4;have HE:=Zy her;have HXS:=Zy hxs;have HB:=Zy hb1;have HTB:=Zy htb;clear ho s1 s4 her hxs hb1 htb hb2 hlen hA;go_wp2_with fail
 refine HT.out.mono ?_;rintro e w3 ⟨rfl,hb3⟩;have HB3:=Zy (HB2.out.trans (hb3.mono HB2.out.size));replace c2:=Zd hb3 _ _ c2;replace c3:=Zd hb3 _ _ c3;have PE:=Zy (HL0.out.Xw.trans (HB3.out.mono HL0.out.Xw.size));clear hb3 HT;by_cases he:er=0
 case neg=>
  have e1:(er !=0)=true:=QDo;clear he HE;exact QIP
 subst he;cases b1 with
 | false=>
  exact QIP
 | true=>
 obtain⟨bt,hbt⟩:∃b,b=l.all Nj:=⟨_,rfl⟩;have nD:=Zy (SE a n c l w3 (HX.out.below PE.out) HN.out hl bt hbt);have HBT:=Zy hbt;clear hbt;cases bt with
 | false=>
  exact QMJ
 | true=>
 by_cases jU:cc=121
 case pos=>
  subst jU;exact QMJ
 have Qxr:(cc==121)=false:=by simpa using jU
 have QW2:=Zy jU;clear jU;go_upto_region 5 with((go_at_call 32;refine nD.out.mono ?_;rintro e w4 ⟨rfl,rfl⟩))
 by_cases hno:cc=0/\¬(cd=120\/cd=88\/cd=115\/cd=83\/cd=67\/cd=68\/cd=112\/cd=80\/cd=126\/cd=114\/cd=105\/cd=73\/cd=97\/cd=65\/cd=82)
 case pos=>
  obtain⟨rfl,hno⟩:=hno;obtain⟨f1,f2,f3,f4,f5,f6,f7,f8,f9,f10,f11,f12,f13,f14,f15⟩:(cd==120)=false/\(cd==88)=false/\(cd==115)=false/\(cd==83)=false/\(cd==67)=false/\(cd==68)=false/\(cd==112)=false/\(cd==80)=false/\(cd==126)=false/\(cd==114)=false/\(cd==105)=false/\(cd==73)=false/\(cd==97)=false/\(cd==65)=false/\(cd==82)=false:=by
   refine⟨?_,?_,?_,?_,?_,?_,?_,?_,?_,?_,?_,?_,?_,?_,?_⟩
   all_goals exact beq_false_of_ne QQ
  clear hno;exact QIP
 have JM:=Zy hno;clear hno;go_upto_block 0 with fail
 go_cut [51] (fun _ wx=>w3=wx)
 case first=>
  clear HL0 HI HQ HX HN HB1 HB2 HE HXS HB HTB HB3 PE nD HBT;by_cases hv:cd=120\/cd=88\/cd=115\/cd=83\/cd=67\/cd=68\/cd=112\/cd=80\/cd=126\/cd=114\/cd=105\/cd=73\/cd=97\/cd=65\/cd=82
  ·clear JM
   rcases hv with rfl|rfl|rfl|rfl|rfl|rfl|rfl|rfl|rfl|rfl|rfl|rfl|rfl|rfl|rfl
   all_goals
    go_wp2;go_meet;rfl
  ·obtain⟨f1,f2,f3,f4,f5,f6,f7,f8,f9,f10,f11,f12,f13,f14,f15⟩:(cd==120)=false/\(cd==88)=false/\(cd==115)=false/\(cd==83)=false/\(cd==67)=false/\(cd==68)=false/\(cd==112)=false/\(cd==80)=false/\(cd==126)=false/\(cd==114)=false/\(cd==105)=false/\(cd==73)=false/\(cd==97)=false/\(cd==65)=false/\(cd==82)=false:=by
    refine⟨?_,?_,?_,?_,?_,?_,?_,?_,?_,?_,?_,?_,?_,?_,?_⟩
    all_goals exact beq_false_of_ne QQ
   have f0:(cc==0)=false:=beq_false_of_ne (fun e=>JM.out ⟨e,hv⟩);clear hv JM;go_wp2;go_meet;rfl
 obtain rfl:=hcut;have hch:Gr ⟨ca,cb,cc,cd,ce⟩=true:=by
  have h1:=JM.out;have h2:=QW2.out;unfold Gr;dsimp only;rw[Bool.and_eq_true,Bool.or_eq_true];refine⟨decide_eq_true h2,?_⟩;by_cases h0:cc=0
  ·refine .inr ?_
   have:cd=120\/cd=88\/cd=115\/cd=83\/cd=67\/cd=68\/cd=112\/cd=80\/cd=126\/cd=114\/cd=105\/cd=73\/cd=97\/cd=65\/cd=82:=QQ;simpa using this
  ·exact .inl (decide_eq_true h0)
 obtain⟨K0,hK0,-⟩:=HI.out.inv;obtain⟨g1,g2,g3,g4,go,g5,g6⟩:=lh (W:=W) (c:=⟨ca,cb,cc,cd,ce⟩) hK0 HI.out.pend HQ.out HE.out.symm (by rw[<-HXS.out];exact HB.out.symm) hch;rw[<-HXS.out,<-HTB.out]at g4 go;rw[<-HXS.out,<-HTB.out]at g5;rw[<-g5]at g6;have QVU:qF (Xu ⟨ca,cb,cc,cd,ce⟩)=true:=by rw[<-g3,<-HXS.out];exact HB.out.symm
 have HG:=Zy (show xQ ⟨ca,cb,cc,cd,ce⟩=true/\qF (Xu ⟨ca,cb,cc,cd,ce⟩)=true/\Km ⟨ca,cb,cc,cd,ce⟩/\Gr ⟨ca,cb,cc,cd,ce⟩=true/\l.all Nj=true/\runesBytes (Xu ⟨ca,cb,cc,cd,ce⟩)=tb from⟨g1,QVU,g2,hch,HBT.out.symm,g5.symm⟩);obtain⟨v0,hv0⟩:=(HL0.out.below HB3.out).iZ;have HF1:=Zy (ym W w0 w3 B N used most S G v0 tb l0 m0 hv0 HI.out QQ hNb g4);have HSZ:=Zy g6;have HOV:=Zy go;clear g1 g2 g3 g4 g5 g6 QVU hch JM QW2 hK0 HE HXS HB HTB nD HBT Qxr c2 c3 go hv0;go_wp2_with fail
 refine HF1.out.mono ?_;rintro e w4 ⟨G1,a1,n1,k1,Hm,a2,n2,k2,hL1,hM1,hI1,rfl,ho1,QVG,hn1,hb1,-⟩;have bn:=Zy (show∀(T:SS) (t:ByteArray),(S.feed W tb).1.told=[]->(((S.feed W tb).1.mode=0/\T=(S.feed W tb).1/\t=tb)\/((S.feed W tb).1.mode≠0/\qF l=true/\(runesBytes l).size<=1000/\T=((S.feed W tb).1.feed W (runesBytes l++⟨#[27]⟩)).1/\T.told=[]/\t=tb++runesBytes l++⟨#[27]⟩))->ChR W S ⟨ca,cb,cc,cd,ce⟩ l T t from fun T t h1 h2=>by
  obtain⟨q1,q2,q3,q4,q5,q6⟩:=HG.out;refine⟨q1,q2,q3,q4,q5,?_,?_⟩
  ·rw[q6];exact h1
  ·rw[q6];exact h2)
 have QyT:=Zy HOV.out;clear HG HF1 HOV;generalize(S.feed W tb).1=S1 at *;obtain⟨K1,hK1,-⟩:=hI1.inv;have He:=Zy (VX w0 w4 B K1 S1 G1 hL1.live hK1);have ui:=Zy hL1;have HM1:=Zy ((Mv.below (G:=G) HB3.out).trans hM1);have HI1:=Zy hI1;have HO1:=Zy ho1;have yK:=Zy QVG;have om:=Zy hn1;have QWe:=Zy hb1;have HK1:=Zy hK1;have xB:=Zy hL1.live.Xw;clear hL1 hM1 hI1 ho1 QVG hn1 hb1 hK1;go_wp2_with fail
 refine He.out.mono ?_;intro e w5 h5;obtain⟨rs,v,r,lv,rr,rfl,hrs,KQ,hb5⟩:=h5.hid;have hfl:∀w,(Instr.field 53 (.agg (Xo rs)) 1).run Tryz.prog w=.ok (.int .i64 S1.mode) w:=fun w=>by rw[hrs,TN KQ.lr w]
 have HB5:=Zy hb5;have HW5:=Zy (xB.out.trans (hb5.mono xB.out.size));have HQ1:=Zy (fun(w':World) (hb:Below w4.heap.size w4 w') (qb:Bool) (h:qb=VF S1)=>qm w0 w' B K1 S1 G1 qb (ui.out.live.below hb) HK1.out h);clear h5 hrs KQ hb5 He;obtain⟨md,hmd⟩:∃md,md=S1.mode:=⟨_,rfl⟩;rw[<-hmd]at hfl;have HMD:=Zy hmd;clear hmd;by_cases hm:md=0
 case pos=>
  subst hm;by_cases hn0:n1=0
  ·subst hn0
   have htold:=ZM om.out;obtain⟨qb,OY⟩:∃qb,qb=VF S1:=⟨_,rfl⟩;have Rs:=Zy (HQ1.out w5 HB5.out qb OY);have DT:=Zy htold;have HQB:=Zy OY;clear htold OY HQ1;go_wp2_with (go_at_call 15;refine Rs.out.mono ?_;rintro e w6 ⟨rfl,hb6⟩)
   go_ret2
   refine⟨tb,qb,rfl,HW5.out.trans (hb6.mono HW5.out.size),fun hq=>⟨S1,G1,_,_,(ui.out.live.below HB5.out).below hb6,HM1.out.trans ((Mv.below HB5.out).trans (Mv.below hb6)),HI1.out.more QEI,bn.out S1 tb DT.out (.inl ⟨HMD.out.symm,rfl,rfl⟩),?_⟩⟩;rw[<-HQB.out];exact hq
  ·have e2:((n1:Int)==0)=false:=by simpa using hn0
   clear hn0 HQ1;go_wp2;go_ret2
   exact kg.no HW5.out
 case neg=>
  have e1:(md !=0)=true:=by simpa using hm
  have HMN:=Zy hm;clear hm HQ1;obtain⟨b2,hb2⟩:∃b,b=qF l:=⟨_,rfl⟩;obtain⟨tl,htl⟩:∃t,t=yC l:=⟨_,rfl⟩;have HT2:=Zy (Ay a n c l w5 (HX.out.below HW5.out) HN.out hl b2 hb2 tl htl);have HB2:=Zy hb2;have HTL:=Zy htl;clear hb2 htl;go_wp2_with fail
  refine HT2.out.mono ?_;rintro e w6 ⟨rfl,hb6⟩;have HB6:=Zy (HB5.out.trans (hb6.mono HB5.out.size));have HW6:=Zy (HW5.out.trans (hb6.mono HW5.out.size));clear HT2 hb6;cases b2 with
  | false=>
   go_wp2;go_ret2
   exact kg.no HW6.out
  | true=>
  by_cases hs:1000<tl.size
  ·have hs1:(1000:Int)<(tl.size:Int):=by omega
   clear hs;go_wp2;go_ret2
   exact kg.no HW6.out
  have hs1:¬(1000:Int)<(tl.size:Int):=QQ;have etl:tl=runesBytes l:=by rw[HTL.out];unfold yC;rw[if_pos HB2.out.symm]
  have hsz2:(tl++(⟨#[27]⟩:ByteArray)).size<=1001:=by
   rw[ByteArray.size_append];have:(⟨#[27]⟩:ByteArray).size=1:=rfl;omega
  have hz2:(S1.feed W (tl++⟨#[27]⟩)).2=0:=by rw[zB QyT.out QQ]
  have EP:=Zy (ym W w0 w6 B N (used+tb.size) most S1 G1 _ (tl++⟨#[27]⟩) _ _ (ui.out.below HB6.out) HI1.out QEI hNb hz2);have Qyu:=Zy hsz2;have bJ:=Zy (show(runesBytes l).size<=1000 by rw[<-etl];omega);have HET:=Zy etl;clear hs etl hsz2 hz2;go_wp2_with fail
  refine EP.out.mono ?_;rintro e w7 ⟨G2,a3,n3,k3,us3,a4,n4,k4,hL2,hM2,hI2,rfl,ho2,QVF,hn2,hb2,hkp⟩;have ho1:=Xd.moved (Xd.kept HO1.out HB6.out) hkp;obtain⟨p1,-,-,p4,p5⟩:=ho2.bM.get;have q1:Hm.length=n1:=by rw[yK.out.1];exact om.out
  have hW7:=hL2.live.Xw;obtain⟨K2,hK2,-⟩:=hI2.inv;have HL2:=Zy hL2;have HM2:=Zy hM2;have HI2:=Zy hI2;have HO:=Zy ho1;have HP4:=Zy p4;have HP5:=Zy p5;have og:=Zy p1;have HQ1:=Zy q1;have HW7:=Zy hW7;have HEV:=Zy QVF;have HN2:=Zy hn2;have Da:=Zy hK2;have Qyf:=Zy hb2;have QvT:¬9223372036854775807<tb.size+tl.size:=QEI;have QvS:¬9223372036854775807<tb.size+tl.size+1:=QEI;clear hL2 hM2 hI2 ho1 ho2 p1 p4 p5 q1 hW7 QVF hn2 hK2 hb2 hkp EP;by_cases hz:n3=0
  ·subst hz
   have iI:=ZM HN2.out;have Qyy:=Zy iI;clear iI;by_cases hn0:n1=0
   ·subst hn0
    have htold:=ZM om.out;obtain⟨qb,OY⟩:∃qb,qb=VF (S1.feed W (tl++⟨#[27]⟩)).1:=⟨_,rfl⟩;have Rs:=Zy (qm w0 w7 B K2 _ G2 qb HL2.out.live Da.out OY);have DT:=Zy htold;have HQB:=Zy OY;clear htold OY;go_wp2_with (first|(at_builtin;refine Lib.wpList_append_run w7 rfl _ _ _ _ rfl (.slice a1 0 k1) (.slice a3 0 k3) rfl rfl (.slice a1 0 k1) w7 (qw w7 _ _ Hm w0.heap.size k3 a3 HO.out (by rw[HQ1.out];omega)) ?_)|(go_at_call 15;refine Rs.out.mono ?_;rintro e w8 ⟨rfl,XH⟩))
    go_ret2
    refine⟨tb++tl++⟨#[27]⟩,qb,rfl,HW7.out.trans (XH.mono HW7.out.size),fun hq=>⟨_,G2,_,_,HL2.out.live.below XH,HM1.out.trans ((Mv.below HB6.out).trans (HM2.out.trans (Mv.below XH))),HI2.out.more (by have:=HSZ.out;have:=Qyu.out;omega),bn.out _ _ DT.out (.inr ⟨?_,HB2.out.symm,bJ.out,?_,Qyy.out,?_⟩),?_⟩⟩
    ·rw[<-HMD.out];exact HMN.out
    ·rw[HET.out]
    ·rw[HET.out]
    ·rw[<-HQB.out];exact hq
   ·have e2:((n1:Int)==0)=false:=by simpa using hn0
    clear hn0;go_wp2_with (at_builtin;refine Lib.wpList_append_run w7 rfl _ _ _ _ rfl (.slice a1 n1 k1) (.slice a3 0 k3) rfl rfl (.slice a1 n1 k1) w7 (qw w7 _ _ Hm w0.heap.size k3 a3 HO.out (by rw[HQ1.out];have:=QWe.out;omega)) ?_)
    go_ret2
    exact kg.no HW7.out
  ·have HZ:=Zy hz
   clear hz;go_wp2_with (at_builtin;refine QXV rfl _ _ rfl w0.heap.size (.slice a1 n1 k1) Hm us3 a3 n3 k3 rfl rfl HO.out HP4.out HEV.out.ok og.out HP5.out (by rw[HQ1.out];have:=QWe.out;have:=Qyf.out;omega) HW7.out.size ?_;intro v9 w9 o9 hg9 QQx;obtain⟨a9,n9,k9,h9⟩:=o9.form;subst h9;have hn9:=o9.bM.get.1;have e9:((n9:Int)==0)=false:=(by have h1:=og.out;have h2:=HZ.out;rw[ZN]at hn9;have:n9≠0:=QQ;simpa using this);have HB9:=Zy (HW7.out.grown hg9 HW7.out.size HO.out.row);clear o9 hg9 QQx hn9)
   go_ret2
   exact kg.no HB9.out
theorem Bg{W:World}{b:ByteArray}{S0 S:SS}{l:List (Int×List Int)}{m:List Int}(h:Ur W [b] S0 [] []=some (S,l,m)):b.size<=4096:=by
 unfold Ur at h;by_cases hz:(S0.feed W b).2=0
 ·exact(kE hz).2.1
 ·rw[if_neg hz]at h;cases h
theorem QZn{w2 w' w'':World}{B:Nat}{u v:Value}(h:w'.cell? ⟨B,0,none⟩=some u/\w'.cell? ⟨B,1,none⟩=some v/\Below w2.heap.size w2 w')(hb:Below w'.heap.size w' w''):
  w''.cell? ⟨B,0,none⟩=some u/\w''.cell? ⟨B,1,none⟩=some v/\Below w2.heap.size w2 w'':=
 ⟨Zd hb _ _ h.1,Zd hb _ _ h.2.1,h.2.2.trans (hb.mono h.2.2.size)⟩
theorem Mv.kept{G G':Nat->Prop}{w w':World}(h:Mv G w G' w'){a:Nat}(hG:∀k,G k->k<a):Xv (fun k=>a<=k) w w':=fun p x hp hc=>by
 have hlt:=Xb hc;unfold World.cell? at *;rw[h.block p.block hlt (fun e=>by have:=hG _ e;omega)];exact hc
theorem Es(a:Option Addr)(n c:Nat)(l:List Int)(width:Int)(ahead:ByteArray)(ca cb cc cd ce:Int)(w:World)(hx:Ints w a l)(hn:l.length=n)(hl:n<=1048576)(hs:ahead.size<=1048576):
  Calls Tryz.prog 4 #[.int .i64 width,.string ahead,.agg #[.int .i64 ca,.int .i64 cb,.int .i64 cc,.int .i64 cd,.int .i64 ce],.slice a n c] w fun e w'=>e=.returned (.bool true)/\Below w.heap.size w w':=by
 have hA:=Za.new w #[.int .i64 ca,.int .i64 cb,.int .i64 cc,.int .i64 cd,.int .i64 ce] 39;have hacc:=ZR w (.cells #[.int .i64 ca,.int .i64 cb,.int .i64 cc,.int .i64 cd,.int .i64 ce] 39);have HX:=Zy hx;have HN:=Zy hn;clear hx hn;go_enter Tryz.func4,Tryz.ntmps4
 go_upto_region 1 with fail
 generalize w.alloc (.cells #[.int .i64 ca,.int .i64 cb,.int .i64 cc,.int .i64 cd,.int .i64 ce] 39)=w1 at *;have HA:=Zy hA;have HB1:=Zy hacc;clear hA hacc;go_wp2_with fail
 refine(jR w1).mono ?_;rintro e w2 ⟨rfl,hb2⟩;have hbb:=hb2.trans ((ZR w2 (.cells #[.string ahead] 9)).mono hb2.size);have HFD:=Zy (Nl w 5 width (some ⟨w2.heap.size,0,none⟩) 1 1 ahead.size [ahead] _ (yE w2 ahead) rfl (by show ahead.size+0<=ahead.size;omega) hs QQ);have HBF:=Zy hbb;clear hb2 hbb;go_wp2_with fail
 generalize w2.alloc (.cells #[.string ahead] 9)=wF at *;refine HFD.out.mono ?_;rintro e w3 (⟨hb3,rfl,-⟩|⟨hg,B,G,S,l0,m0,a1,n1,c1,us,a2,n2,c2,hf,rfl,hL,hI,-,-,-,-,-,-,-⟩)
 ·go_wp2
  go_ret;exact⟨rfl,HB1.out.trans ((HBF.out.trans (hb3.mono HBF.out.size)).mono HB1.out.size)⟩
 have hsz:=Bg hf;have hsum:Uu [ahead]=ahead.size:=by show ahead.size+0=_;omega
 rw[hsum]at hI;have hI:=(hI.wide (N':=1048576) hs).more (PO:=4096) hsz;obtain⟨K,hK,-⟩:=hI.inv;obtain⟨qb,OY⟩:∃qb,qb=VF S:=⟨_,rfl⟩;have HQ:=Zy (qm wF w3 B K S G qb hL hK OY);have HL:=Zy hL;have HI:=Zy hI;have HK:=Zy hK;have HQB:=Zy OY;have Cq:=Zy (show Below w.heap.size w wF from HB1.out.trans (HBF.out.mono HB1.out.size));clear hg hf hL hI hsz hsum hK OY HFD;go_wp2_with fail
 refine HQ.out.mono ?_;rintro e w4 ⟨rfl,hb4⟩;have bq:=Zy (HL.out.below hb4);have xB:=Zy (Cq.out.trans (bq.out.Xw.mono Cq.out.size));clear hb4 HQ HL;cases qb with
 | false=>
  exact QIo
 | true=>
 have He:=Zy (VX wF w4 B K S G bq.out HK.out);go_wp2_with fail
 refine He.out.mono ?_;intro e w5 h5;obtain⟨rs,v,r,lv,rr,rfl,hrs,KQ,hb5⟩:=h5.hid;obtain⟨a3,n3,c3,rfl⟩:=KQ.t.form;have hfl:∀w,(Instr.field 53 (.agg (Xo rs)) 0).run Tryz.prog w=.ok (.agg #[.slice a3 n3 c3,.int .i64 S.pos]) w:=fun w=>by rw[hrs,Vj KQ.lr w]
 have hb6:=ZR w5 (.cells #[.slice a3 n3 c3,.int .i64 S.pos] 42);obtain⟨d0,d1,-,-⟩:=(Za.new w5 #[.slice a3 n3 c3,.int .i64 S.pos] 42).two;have ht6:=KQ.t.keep (Xv.below _ hb6);have lX:=hb5.trans (hb6.mono hb5.size);have hL6:=bq.out.below lX;have QVT:Below w1.heap.size w1 (w5.alloc (.cells #[.slice a3 n3 c3,.int .i64 S.pos] 42)):=HBF.out.trans (hL6.Xw.mono HBF.out.size);obtain⟨c0,c1',c2',c3',c4⟩:=(HA.out.below QVT HA.out.lt).five;have hlo:w4.heap.size<=w5.heap.size:=hb5.size;clear h5 hrs KQ;go_upto_region 7 with fail
 generalize w5.alloc (.cells #[.slice a3 n3 c3,.int .i64 S.pos] 42)=w6 at *;have bn:=Zy (Az w wF w6 B 1048576 4096 5 S G l0 m0 ca cb cc cd ce a n c l hL6 HI.out QQ QQ HQB.out.symm (HX.out.below Cq.out) HN.out hl);have HLT:=Zy bq.out.lt;have HT6:=Zy ht6;have HL6:=Zy hL6;have HLO:=Zy hlo;have HW6:=Zy (Cq.out.trans (hL6.Xw.mono Cq.out.size));clear hb5 hb6 ht6 lX hL6 QVT hlo He xB HA HBF HB1 bq HX HN;go_wp2_with fail
 refine bn.out.mono ?_;rintro e w7 ⟨t,b,rfl,WC,hch⟩;have HW7:=Zy (Cq.out.trans (WC.mono Cq.out.size));clear WC bn;cases b with
 | false=>
  go_wp2;go_ret;exact⟨rfl,HW7.out⟩
 | true=>
 obtain⟨T,G',lt,mt,hL7,hM7,hI7,uq,hq7⟩:=hch rfl;clear hch;have hCd:=uq.chd HK.out HI.out.pend HQB.out.symm;obtain⟨u1,u2,u3,u4,u5,u6,u7⟩:=dB (W:=w) hq7 hCd.pend (hCd.past.trans (D5 S));obtain⟨v0,hv0⟩:=hL7.iZ;have HF:=Zy (ym w wF w7 B 1048576 (4096+1040) 5 T G' v0 ⟨#[117]⟩ lt mt hv0 hI7 (by show 4096+1040+1<=1048576;omega) QQ u1);have HU:=Zy (show(T.feed w ⟨#[117]⟩).1.told=[]/\(T.feed w ⟨#[117]⟩).1.text=S.text/\(T.feed w ⟨#[117]⟩).1.pos=S.pos/\VF (T.feed w ⟨#[117]⟩).1=true from⟨u2,u3,u4,u7⟩);have HM7:=Zy hM7;clear hL7 hM7 hI7 uq hq7 hCd u1 u2 u3 u4 u5 u6 u7 hv0;go_wp2_with fail
 refine HF.out.mono ?_;rintro e w8 ⟨G2,a4,n4,xA,us4,a5,n5,c5,aQ,hM8,hI8,rfl,-,-,hn8,-,-⟩;obtain⟨U1,U2,U3,U4⟩:=HU.out;rw[U1]at hn8;obtain rfl:n4=0:=hn8.symm;have QVr:=HM7.out.trans hM8;have ib:=QVr.kept (a:=w4.heap.size) HLT.out;have d0:=ib ⟨w5.heap.size,0,none⟩ _ HLO.out d0;have d1:=ib ⟨w5.heap.size,1,none⟩ _ HLO.out d1;have ht8:=HT6.out.keep ib;obtain⟨K8,hK8,-⟩:=hI8.inv;have HL8:=Zy aQ.live;have HK8:=Zy hK8;have HT8:=Zy ht8;have HW8:=Zy (Cq.out.trans (aQ.live.Xw.mono Cq.out.size));have HU2:=Zy U2;have HU3:=Zy U3;have HU4:=Zy U4.symm;clear aQ hM8 hI8 QVr ib ht8 hK8 U1 U2 U3 U4 HU HF;generalize(T.feed w ⟨#[117]⟩).1=Z at *;have QKU:=Zy (fun(w':World) (hb:Below w8.heap.size w8 w')=>VX wF w' B K8 Z G2 (HL8.out.below hb) HK8.out);have HQ9:=Zy (fun(w':World) (hb:Below w8.heap.size w8 w')=>qm wF w' B K8 Z G2 true (HL8.out.below hb) HK8.out HU4.out);have bJ:=Zy (fun(w':World) (hb:Below w8.heap.size w8 w') (aa:Option Addr) (nn k:Nat) (h:Ints w' aa S.text) (hl:S.text.length=nn)=>Pb aa a3 nn n3 k c3 S.text S.pos w' h (HT8.out.ints.below hb) hl HT8.out.get.1 (by have:=HK.out.tl;omega));go_upto_region 11 with fail
 go_region_held3 (fun w'=>w'.cell? ⟨w5.heap.size,0,none⟩=some (.slice a3 n3 c3)/\w'.cell? ⟨w5.heap.size,1,none⟩=some (.int .i64 S.pos)/\Below w8.heap.size w8 w') (first|exact⟨d0,d1,(ZH _ _).drew⟩|assumption|exact QZn ‹_› ‹_›)
  (first|(go_at_call 16;refine(QKU.out _ (XW (XW ‹_›))).mono ?_;intro e Hl h10;obtain⟨QXw,v10,r10,QzG,QzJ,rfl,Le,xh,KI⟩:=h10.hid;obtain⟨a11,n11,c11,rfl⟩:=xh.t.form;have QVE:∀w,(Instr.field 53 (.agg (Xo QXw)) 0).run Tryz.prog w=.ok (.agg #[.slice a11 n11 c11,.int .i64 S.pos]) w:=(fun w=>by rw[Le,Vj xh.lr w,HU3.out]);have nH:=Zy (show Ints Hl a11 S.text/\S.text.length=n11 from⟨by have h:=xh.t.ints;rw[HU2.out]at h;exact h,by have h:=xh.t.get.1;rw[HU2.out]at h;exact h⟩);clear h10 Le xh)|(go_at_call 19;refine(bJ.out _ (XW (XW ‹_›)) a11 n11 c11 nH.out.1 nH.out.2).mono ?_;rintro e qR ⟨rfl,Wq⟩)|(go_at_call 15;refine(HQ9.out _ (XW (XW ‹_›))).mono ?_;rintro e w13 ⟨rfl,Qvd⟩))
 all_goals go_wp2
 all_goals go_ret
 all_goals exact⟨rfl,ZE HW8.out HW8.out.size (XW (XW ‹_›))⟩
end Go.Proofs.YtmdnepkekekncaaGreat
