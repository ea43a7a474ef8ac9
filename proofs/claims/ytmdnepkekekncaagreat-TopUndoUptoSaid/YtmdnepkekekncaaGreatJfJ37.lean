/- joined, no condition of its own. -/
import Derived.Test.YtmdnepkekekncaaGreatJfJ31
import Derived.Test.YtmdnepkekekncaaGreatJfJ36
set_option linter.unusedVariables false
set_option linter.unusedSimpArgs false
set_option maxRecDepth 100000
set_option maxHeartbeats 12000000
namespace Go.Proofs.YtmdnepkekekncaaGreat
open Go.RowKit
theorem QJT(W0 W:World)(S:SS)(a:Option Addr)(n k q:Nat)(vs:List Value)(c:C5)(hn:n=S.text.length)(hq:q=S.pos.toNat):Mi ⟨W,a,n,k,S.text,q,vs,S.regs⟩ c S.fk S.fa=S.vG W0 c:=by
 subst hn hq;unfold SS.vG iF Mi Mh BJ EY FI Hr mF Uz;rfl
structure DoQ (W0:World) (S:SS) (c:C5) (w1 wx:World) (R:Nat) (rs:List Value):Prop where
 lo:w1.heap.size<=R
 blk:XG wx R rs 204
 res:ag w1.heap.size wx rs (S.vG W0 c).2
 Xw:Below w1.heap.size w1 wx
theorem Qxt{W0:World}{S:SS}{c:C5}{w1 w8:World}{rs:List Value}{b:Nat}(hb:w1.heap.size<=b)(r8:MI b w8 rs (S.vG W0 c).2)(Uq:Below w1.heap.size w1 w8):DoQ W0 S c w1 ((w8.alloc zL).setCells w8.heap.size 0 rs) w8.heap.size rs:=by
 have hR:=vL (w:=w8) rfl;have h2:=hR.setCells 0 rs;rw[V5 (by rw[Jv,r8.lr])]at h2;exact⟨Uq.size,h2,(r8.rsv.moved (fun k _ hk=>by rw[(YO rs _ 0).1 k QQ];exact(ZR w8 zL).block k hk)).mono hb,below_setCells Uq.size rs 0 (Zp.alloc Uq)⟩
theorem Qxs{W0:World}{S:SS}{c:C5}{w1 w8:World}{rs:List Value}{b R:Nat}(hR:XG w8 R YW 204)(hlo:w1.heap.size<=R)(hb:R<b)(r8:MI b w8 rs (S.vG W0 c).2)(Uq:Below w1.heap.size w1 w8):DoQ W0 S c w1 (w8.setCells R 0 rs) R rs:=by
 have h2:=hR.setCells 0 rs;rw[V5 (by rw[Jv,r8.lr])]at h2;exact⟨hlo,h2,(r8.rsv.moved (fun k hk _=>(YO rs w8 0).1 k QQ)).mono QQ,below_setCells hlo rs 0 Uq⟩
def qx(S:SS)(c:C5):SS:=if kH c then {S.save with now:=some (c,[])}else S
def QQg(S1:SS)(s:St):SS:={S1 with text:=s.O,pos:=s.p,regs:=s.Y,fk:=s.fk,fa:=s.fa,mode:=s.md}
theorem QWW(W0:World)(S:SS)(c:C5)(h:(S.vG W0 c).1=0):S.Kz W0 c=(if(S.vG W0 c).2.md=0/\(qx S c).now.isSome then {QQg (qx S c) (S.vG W0 c).2 with last:=(qx S c).now,now:=none}else QQg (qx S c) (S.vG W0 c).2,true):=by
 unfold SS.Kz;rw[if_neg (fun e=>e h)];rfl
theorem QJR(W0:World)(S:SS)(c:C5)(h:(S.vG W0 c).1≠0):S.Kz W0 c=(S.Y2,false):=by
 unfold SS.Kz;rw[if_pos h]
theorem NK(W0:World)(F G:Nat->Prop)(B K:Nat)(S:SS)(c:C5)(w:World)(h:YF F G w B S)(hI:Xz K S)(hm:S.mode=0)(hc:Km c)(hn:S.told.length<=4398046511103):
  Calls Tryz.prog 90 #[.pointer (some ⟨B,0,none⟩),.agg #[.int .i64 c.a,.int .i64 c.b,.int .i64 c.c,.int .i64 c.d,.int .i64 c.e]] w fun e w'=>e=.returned (.bool (S.Kz W0 c).2)/\VPs F G w B (S.Kz W0 c).1 w':=by
 obtain⟨f,hf⟩:=h;have hb1:=ZR w (.cells #[.int .i64 c.a,.int .i64 c.b,.int .i64 c.c,.int .i64 c.d,.int .i64 c.e] 39);have KR:=Za.new w #[.int .i64 c.a,.int .i64 c.b,.int .i64 c.c,.int .i64 c.d,.int .i64 c.e] 39;have hA1:=(At.begin hf).below hb1;have hFC:Fx F w (w.alloc (.cells #[.int .i64 c.a,.int .i64 c.b,.int .i64 c.c,.int .i64 c.d,.int .i64 c.e] 39)) w.heap.size:=.inr ⟨ZB _,QJ⟩;obtain⟨q,hq⟩:∃q:Nat,S.pos=q:=⟨S.pos.toNat,by have:=hI.p0;omega⟩;have hBl:=hf.vz;have HI:=Zy hI;have HN:=Zy hn;have HQ:=Zy hq;have HM:=Zy hm;clear hI hn hq hf hb1;go_enter Tryz.func90,Tryz.ntmps90
 go_upto_region 1 with fail
 generalize(w.alloc (.cells #[.int .i64 c.a,.int .i64 c.b,.int .i64 c.c,.int .i64 c.d,.int .i64 c.e] 39))=w1 at *;have hdr:w1.drew.heap.size=w1.heap.size:=rfl;obtain⟨d0,d1,d2,d3,d4⟩:=Za.five KR;have UE:=hA1.hf.cell 30;have c31:=hA1.hf.cell 31;rw[hA1.hf.d.fk]at UE;rw[hA1.hf.d.fa]at c31;have hr:=hA1.hf.range;have HA1:=Zy hA1;have uh:=Zy (fun(w':World) (hb:Below w1.heap.size w1 w')=>Ed _ _ B S w' ⟨f,(HA1.out.JA hb).hf⟩ QFV);have nT:=Zy (fun(W:World) (a:Option Addr) (n k:Nat) (vs:List Value) (hn:n=S.text.length)=>QJT W0 W S a n k q vs c hn (by have:=HQ.out;omega));have HIO:=Zy (fun(W:World) (hb:Below w1.heap.size w1 W) (a:Option Addr) (k:Nat) (hk:S.text.length<=k) (hk2:k<=9223372036854775807) (hi:Ints W a S.text) (h0:a=none->S.text.length=0)=>QQQ W0 HI.out (.inl HM.out) hk hk2 hi h0 (HA1.out.JA hb).hf.bH);have hSq:S.pos.toNat=q:=by have:=HQ.out;omega
 rw[hSq]at HIO;have HDM:=Zy (fun(W:World) (hb:Below w1.heap.size w1 W) (a:Option Addr) (k:Nat) (hk:S.text.length<=k) (hk2:k<=9223372036854775807) (hi:Ints W a S.text) (h0:a=none->S.text.length=0)=>
  (show Calls Tryz.prog 127 #[.agg #[.slice a S.text.length k,.int .i64 (q:Int)],.agg (Xo (bI f)),.agg #[.int .i64 S.fk,.int .i64 S.fa],.agg #[.int .i64 c.a,.int .i64 c.b,.int .i64 c.c,.int .i64 c.d,.int .i64 c.e]] W (oU (S.vG W0 c).1 (S.vG W0 c).2 W)from by
   have:=QQf ⟨W,a,S.text.length,k,S.text,q,bI f,S.regs⟩ (HIO.out W hb a k hk hk2 hi h0) S.fk S.fa c hc.1 hc.2;rw[nT.out _ _ _ _ _ rfl]at this;exact this))
 clear hA1 hSq HIO nT;have hB1:B<w1.heap.size:=HA1.out.hf.vz;have QJz:w.heap.size<w1.heap.size:=KR.lt;have hal:=PQ;have hu:=J6;have hz:(Tryz.prog.info? 48).map (·.size)=some (bI f).length:=JF
 go_cut [5,6] (fun v5 v6 wx=>∃R rs,v5=.pointer (some ⟨R,0,none⟩)/\v6=.int .i64 (S.vG W0 c).1/\DoQ W0 S c w1 wx R rs)
 case first=>
  go_region_held3 (fun w'=>w'.cell? ⟨B,30,none⟩=some (.int .i64 S.fk)/\w'.cell? ⟨B,31,none⟩=some (.int .i64 S.fa)/\w'.rangeAt B 3 (bI f)/\w'.cell? ⟨w.heap.size,0,none⟩=some (.int .i64 c.a)/\w'.cell? ⟨w.heap.size,1,none⟩=some (.int .i64 c.b)/\w'.cell? ⟨w.heap.size,2,none⟩=some (.int .i64 c.c)/\w'.cell? ⟨w.heap.size,3,none⟩=some (.int .i64 c.d)/\w'.cell? ⟨w.heap.size,4,none⟩=some (.int .i64 c.e)/\Below w1.heap.size w1 w') (first|exact⟨UE,c31,hr,d0,d1,d2,d3,d4,(ZH _ _).drew⟩|(with_reducible assumption)|exact QWq hB1 QJz ‹_› ‹_› | exact Qx1 hB1 QJz ‹_› _|exact Qx0 hB1 QJz ‹_› _ _ ‹_›)
   (first|(go_at_call 30;refine(uh.out _ ?_).mono ?_;(·repeat' (first|(with_reducible exact ZH _ _)|(with_reducible refine Zp.alloc ?_)|(with_reducible refine Zp.drew ?_)));rintro e w5 ⟨v5,rfl,o5,hb5⟩;rw[HQ.out];obtain⟨a5,n5,k5,rfl⟩:=o5.form;have JR:Below w1.heap.size w1 w5:=QG;have s5:=o5.sl)|(go_at_call 127;obtain⟨rfl,-⟩:n5=S.text.length/\True:=⟨o5.get.1.symm,trivial⟩;refine(HDM.out _ ?_ a5 k5 ?_ ?_ ?_ ?_).mono ?_;(·repeat' (first|(with_reducible exact JR)|(with_reducible exact ZH _ _)|(with_reducible refine Zp.alloc ?_)|(with_reducible refine Zp.drew ?_)));(·exact o5.cap.1);(·exact o5.cap.2.1);(·first|exact o5.get.2.1|exact o5.get.2.1.below (ZR _ _));(·exact fun e=>s5.get.2.2.2.2 e);rintro e w8 ⟨rs,rfl,r8,XH⟩;have Uq:Below w1.heap.size w1 w8:=(by refine Zp.call XH ?_;repeat' (first|(with_reducible exact JR)|(with_reducible exact ZH _ _)|(with_reducible refine Zp.alloc ?_)|(with_reducible refine Zp.drew ?_)));have zx:=r8.lr;have OJ:=r8.one;have vC:(Tryz.prog.info? 204).map (·.size)=some rs.length:=qo.trans (XD some zx.symm);(first|(refine jq (P:=XG w8 (w1.heap.size) YW 204) ?_ ?_;(·repeat' (first|((with_reducible refine Dc ?_);(first|rfl|(simp;done)))|(with_reducible refine XG.Yc XH ?_)|(with_reducible refine XG.Yc hb5 ?_)|(with_reducible refine XG.J2 ?_)|(with_reducible refine XG.alloc ?_ _)));intro VJ;have QU1:=FQ VJ.Nk zx OJ;have hq8:=ZB w1.heap.size)|(refine jq (P:=XG w8 (w5.heap.size) YW 204) ?_ ?_;(·repeat' (first|((with_reducible refine Dc ?_);(first|rfl|(simp;done)))|(with_reducible refine XG.Yc XH ?_)|(with_reducible refine XG.Yc hb5 ?_)|(with_reducible refine XG.J2 ?_)|(with_reducible refine XG.alloc ?_ _)));intro VJ;have QU1:=FQ VJ.Nk zx OJ;have hq8:=JR.size)|(have QU1:=dR (w:=w8) zx OJ;have hq8:=Uq.size))))
  all_goals
   go_wp2;go_meet;first|exact⟨_,_,rfl,rfl,Qxs VJ hq8 QD3 r8 Uq⟩|exact⟨_,_,rfl,rfl,Qxt JR.size r8 Uq⟩
 case rest=>
  obtain⟨R,rs,rfl,rfl,hQ⟩:=hcut;have hA2:=HA1.out.below hQ.Xw;have e0:=Zd hQ.Xw _ _ d0;have e1:=Zd hQ.Xw _ _ d1;have e2:=Zd hQ.Xw _ _ d2;have e3:=Zd hQ.Xw _ _ d3;have e4:=Zd hQ.Xw _ _ d4;clear UE c31 hr d0 d1 d2 d3 d4 uh HDM hal hu hz;have HA2:=Zy hA2;have HQQ:=Zy hQ;by_cases hE:(S.vG W0 c).1=0
  ·have HD:=Zy (QWW W0 S c hE)
   have QVm:(S.vG W0 c).2.O.length<=200:=(mJ (RH W0 HI.out (.inl HM.out)) HI.out.rs hE).len;rw[hE];clear hE hA2 hQ;generalize hs:(S.vG W0 c).2=s at HD QVm;go_upto_if 27 with(go_at_call 128;refine(NV c _).mono ?_;rintro e w3 ⟨rfl,hb3⟩)
   have hA3:=HA2.out.JA hb3;have um:=Zy hA3;have HS3:=Zy (Same.below (F:=Fx (Fx F w w1) w1 wc) (HA2.out.gp) hb3)
   go_cut [28] (fun _ wx=>∃F3 f3,At F G w F3 wx B f3 (qx S c)/\(∀k,Fx (Fx F w w1) w1 wc k->F3 k)/\Same (Fx (Fx F w w1) w1 wc) wc wx)
   case first=>
    cases hch:kH c with
    | false=>
     have h1:qx S c=S:=by unfold qx;rw[hch];rfl
     have H1:=Zy h1;clear h1;go_wp2;go_meet;exact⟨_,f,by rw[H1.out];exact um.out,fun _ h=>h,HS3.out⟩
    | true=>
     have h1:qx S c={S.save with now:=some (c,[])}:=by unfold qx;rw[hch];rfl
     have H1:=Zy h1;clear h1;have HSV:=Zy (PM _ _ B S w3 ⟨f,um.out.hf⟩ HI.out.pl);go_wp2_with fail
     refine HSV.out.mono ?_;rintro e w4 ⟨rfl,hv4⟩;obtain⟨F4,f4,UY,hsub,hsame⟩:=um.out.call hv4;have hk4:∀i v,wc.cell? ⟨w.heap.size,i,none⟩=some v->w4.cell? ⟨w.heap.size,i,none⟩=some v:=fun i v h=>hsame.JB _ _ (.inl hFC) (Zd hb3 _ _ h)
     have k0:=hk4 _ _ e0;have k1:=hk4 _ _ e1;have k2:=hk4 _ _ e2;have k3:=hk4 _ _ e3;have k4:=hk4 _ _ e4;have z47:=UY.hf.free 47;have y47:=UY.hf.cell 47;have hbl:=UY.hf.vz;have Kn:=UY.QX4 c;have hS5:=(((HS3.out.trans hsame).trans (Same.below (fun k hk=>UY.gp k (hsub k hk)) (ZR w4 (.cells #[.int .i64 c.a,.int .i64 c.b,.int .i64 c.c,.int .i64 c.d,.int .i64 c.e,.slice none 0 0] 162)))).trans (Same.setCell (i:=47) HA2.out.hf.m.nB (.pointer (some ⟨w4.heap.size,0,none⟩))));rw[World.setCell_alloc_past _ _ _ _ hbl]at Kn hS5;have bz:=Zy Kn;have Mr:=Zy hS5;have HSU:=Zy hsub;clear hv4 UY hsame hk4 hsub Kn hS5;go_wp2;go_meet;exact⟨F4,_,by rw[H1.out];exact bz.out,HSU.out,Mr.out⟩
   case rest=>
    obtain⟨F3,f3,Kn,hsub,hs5⟩:=hcut;obtain⟨W5,hW5⟩:∃W5,W5=wc:=⟨_,rfl⟩;subst hW5;have KQ:XG W5 R rs 204:=Za.moved HQQ.out.blk (hs5 R (.inr ⟨HQQ.out.lo,HQQ.out.blk.lt⟩));have oG:ag w1.heap.size W5 rs s:=by
     have:=HQQ.out.res.moved (fun k h1 h2=>hs5 k (.inr ⟨h1,h2⟩));rw[hs]at this;exact this
    have hYl:Yh F3 W5 (M3 rs) s.Y:=by
     have:=(HQQ.out.res.lists (F:=Fx (Fx F w w1) w1 wc) fun k hk=>.inr hk).imp fun v xs g=>(g.keep hs5.JB).imp hsub
     rw[hs]at this;exact this
    have hlr:=oG.lr;have hyl:=zM hlr;have hrg:=R4 KQ hlr;obtain⟨oa,on,oc,hov⟩:=oG.o.form;have r0:=KQ.cell (i:=0) QQ;have r1:=KQ.cell (i:=1) QQ;have r29:=KQ.cell (i:=29) QQ;have r30:=KQ.cell (i:=30) QQ;have r31:=KQ.cell (i:=31) QQ;rw[hov]at r0;rw[oG.p]at r1;rw[oG.f1]at r29;rw[oG.f2]at r30;rw[oG.m]at r31;have QQF:Vl W5.drew B f3:=Kn.hf.m.blk;have ht5:W5.drew.there B 3 27:=fun j hj=>⟨by rw[QQF.cell QQ];rfl,QQF.free _⟩
    have QV1:=QQF.regs (M3 rs) hyl;have Wy:=Kn.drew.stB (S':={qx S c with regs:=s.Y}) QV1 (YO _ _ _).2.1 (YO _ _ _).2.2.1 (YO _ _ _).2.2.2 (size_setCells _ _ _) (YO _ _ _).1 rfl rfl rfl
     {Kn.drew.hf.d with lr:=oG.ly,regs:=by rw[fK f3 _ hyl];exact hYl} ⟨rfl,rfl,rfl⟩
    have kC:=Wy.store (S':={qx S c with regs:=s.Y,fk:=s.fk}) 30 (.int .i64 s.fk) {Wy.hf.d with fk:=rfl};have qf:=kC.store (S':={qx S c with regs:=s.Y,fk:=s.fk,fa:=s.fa}) 31 (.int .i64 s.fa) {kC.hf.d with fa:=rfl};have qV:=qf.store (S':={qx S c with regs:=s.Y,fk:=s.fk,fa:=s.fa,mode:=s.md}) 2 (.int .i64 s.md) {qf.hf.d with mode:=rfl};have y30:=Wy.hf.cell 30;have z30:=Wy.hf.free 30;have y31:=Wy.hf.cell 31;have z31:=Wy.hf.free 31;have y2:=Wy.hf.cell 2;have z2:=Wy.hf.free 2;have hRB:R≠B:=fun e=>Kn.hf.m.nB (e▸hsub R (.inr ⟨HQQ.out.lo,HQQ.out.blk.lt⟩))
    have HA9:=Zy qV;have hq0:RdS R rs oa on oc s.p s.fk s.fa s.md (M3 rs) W5.drew:=⟨hrg,r0,r1,r29,r30,r31⟩;have hq1:=rdK (B:=B) hRB hq0 (YO (B:=B) (M3 rs) W5.drew 3).1;have hq3:=rdK (B:=B) hRB (rdK (B:=B) hRB hq1 (fun k hk=>Zl (W5.drew.setCells B 3 (M3 rs)) ⟨B,30,none⟩ (.int .i64 s.fk) k hk)) (fun k hk=>Zl _ ⟨B,31,none⟩ (.int .i64 s.fa) k hk);have hq4:=rdK (B:=B) hRB hq3 (fun k hk=>Zl _ ⟨B,2,none⟩ (.int .i64 s.md) k hk);have Q1:=Zy hq1;have Q3:=Zy hq3;have Q4:=Zy hq4;clear hq0 hq1 hq3 hq4;have hal:=J6;have hz:(Tryz.prog.info? 48).map (·.size)=some (M3 rs).length:=by rw[hyl];exact JF
    have ho:=oG.one;have HV5:=Zy oG;have hsl:Yn F3 W5.drew (.slice oa on oc) s.O:=by
     have:=((HQQ.out.res.o.uX.lt.imp (Q:=Fx (Fx F w w1) w1 wc) fun k hk=>.inr hk).keep hs5.JB).imp hsub;rw[hs,hov]at this;exact this
    have hO4:on<=4096:=by have:=hsl.get.1;omega
    have QU4:=hsl.keep (w':=(((W5.drew.setCells B 3 (M3 rs)).setCell ⟨B,30,none⟩ (.int .i64 s.fk)).setCell ⟨B,31,none⟩ (.int .i64 s.fa)).setCell ⟨B,2,none⟩ (.int .i64 s.md))
     (Same.JB (F:=F3) fun k hk=>by
      have hkB:k≠B:=fun e=>Kn.hf.m.nB (e▸hk)
      rw[Zl _ _ _ _ hkB,Zl _ _ _ _ hkB,Zl _ _ _ _ hkB,(YO _ _ _).1 k hkB])
    have HST:=Zy (NY F3 _ B {qx S c with regs:=s.Y,fk:=s.fk,fa:=s.fa,mode:=s.md} oa on oc s.O s.p _ ⟨_,qV.hf⟩ QU4.sl hO4);clear Kn Wy kC qf qV QQF QV1 oG hYl hsl QU4;go_upto_region 8 with fail
    go_region_held3 (fun w'=>w'.rangeAt R 2 (M3 rs)/\w'.cell? ⟨R,0,none⟩=some (.slice oa on oc)/\w'.cell? ⟨R,1,none⟩=some (.int .i64 s.p)/\w'.cell? ⟨R,29,none⟩=some (.int .i64 s.fk)/\w'.cell? ⟨R,30,none⟩=some (.int .i64 s.fa)/\w'.cell? ⟨R,31,none⟩=some (.int .i64 s.md)) (first|exact⟨hrg,r0,r1,r29,r30,r31⟩|(with_reducible assumption)|(with_reducible exact Q1.out)|(with_reducible exact Q3.out)|(with_reducible exact Q4.out)) (fail)
    all_goals
     dsimp only[Exit.then];go_wp2_with fail
     refine HST.out.mono ?_;rintro e w7 ⟨rfl,hv7⟩;obtain⟨F7,f7,L8,-,-⟩:=HA9.out.call hv7;obtain⟨x2,v2⟩:=L8.hf.m.blk.at 2;obtain⟨x46,v46⟩:=L8.hf.m.blk.at 46;obtain⟨x47,v47⟩:=L8.hf.m.blk.at 47;have QVj:f7 2=.int .i64 s.md:=L8.hf.d.mode;rw[QVj]at x2;have Gv:=L8.hf.m.now;have hst:SS.set {qx S c with regs:=s.Y,fk:=s.fk,fa:=s.fa,mode:=s.md} s.O s.p=QQg (qx S c) s:=rfl;rw[hst]at L8 Gv;have hno:(QQg (qx S c) s).now=(qx S c).now:=rfl;have QKv:=Zy L8;have JM:=Zy hno;clear L8 hv7 hst QVj;rw[hno]at Gv;clear hno;by_cases hmd:s.md=0
     ·rw[hmd]at x2
      have HMD:=Zy hmd;clear hmd;cases jJ:(qx S c).now with
      | none=>
       rw[jJ]at Gv;have Gv:f7 47=.pointer none:=Gv;rw[Gv]at x47;have bg:=Zy jJ;clear Gv jJ;go_wp2;go_ret;exact⟨by rw[HD.out];rfl,by rw[HD.out,bg.out,if_neg (fun e=>by cases e.2)];exact QKv.out.done⟩
      | some qq=>
       rw[jJ]at Gv;obtain⟨c7,Ho⟩:=qq;obtain⟨C7,tv7,h47,-⟩:=Gv;rw[h47]at x47;have bg:=Zy jJ;have H47:=Zy h47;clear h47 jJ;go_wp2;go_ret;obtain⟨F9,QV8⟩:=QKv.out.vJ (JM.out.trans bg.out);rw[H47.out]at QV8;exact⟨by rw[HD.out];rfl,by rw[HD.out,if_pos ⟨HMD.out,by rw[bg.out];rfl⟩];exact QV8.done⟩
     ·have hmb:(s.md==0)=false:=by simpa using hmd
      have HMD:=Zy hmd;clear hmd Gv;go_wp2;go_ret;exact⟨by rw[HD.out];rfl,by rw[HD.out,if_neg (fun e=>HMD.out e.1)];exact QKv.out.done⟩
  ·have HD:=Zy (QJR W0 S c hE)
   have HB:=Zy (U9 _ _ B S _ ⟨f,hA2.hf⟩ HN.out);have hE2:((S.vG W0 c).1 !=0)=true:=QET;clear hA2 hQ hE;generalize(S.vG W0 c).1=er at hE2 ⊢;go_wp2_with fail
   refine HB.out.mono ?_;rintro e w7 ⟨rfl,hv⟩;go_wp2;go_ret;obtain⟨F',f',hA3,-,-⟩:=HA2.out.call hv;exact⟨by rw[HD.out];rfl,by rw[HD.out];exact hA3.done⟩
theorem Gy(mode key b:Int)(hm:mode=1\/mode=2)(h:32<=key/\key≠127):JV [] 0 mode key b=([key],1,0):=by
 unfold JV;rw[if_neg QJ,if_neg QY,if_pos h,if_neg QJ,if_neg QJ];simp
theorem Gz(mode key b:Int)(hm:mode=1\/mode=2)(h:¬(32<=key/\key≠127))(h2:key≠8/\key≠127/\key≠21/\key≠23):JV [] 0 mode key b=([],0,9):=by
 unfold JV;rw[if_neg QJ,if_neg QY,if_neg h,if_pos h2]
theorem DV(mode key b:Int)(hm:mode=1\/mode=2)(h:¬(32<=key/\key≠127))(h2:¬(key≠8/\key≠127/\key≠21/\key≠23)):JV [] 0 mode key b=([],0,5):=by
 unfold JV;rw[if_neg QJ,if_neg QY,if_neg h,if_neg h2,if_pos rfl]
theorem iD(w:World)(x:Int):Ints (w.alloc (.cells #[.int .i64 x] 3)) (some ⟨w.heap.size,0,none⟩) [x]:=
 .inr ⟨_,_,rfl,fun i hi=>by
  obtain rfl:i=0:=QDb;exact JQ w (.int .i64 x) 3⟩
theorem Gm(mode key:Int)(w:World)(hmode:mode=1\/mode=2):
  Calls Tryz.prog 84 #[.agg #[.slice none 0 0,.int .i64 0],.int .i64 mode,.int .i64 key] w (Y3 True (KL [] false 0) [] 0 mode key w):=by
 have hb:=Zo w (.cells #[.slice none 0 0,.int .i64 0] 42) (.cells #[.slice none 0 0,.int .i64 0] 42);have hA:=Za.new (w.alloc (.cells #[.slice none 0 0,.int .i64 0] 42)) #[.slice none 0 0,.int .i64 0] 42;have hP:=(Za.new w #[.slice none 0 0,.int .i64 0] 42).alloc (.cells #[.slice none 0 0,.int .i64 0] 42);rw[Zu]at hA;have hnb:¬U8 [] 0 mode key:=fun h=>by have:=h.2.1;omega
 go_enter Tryz.func84,Tryz.ntmps84
 go_upto_region 4 with fail
 obtain⟨w2,hW2⟩:∃w2,w2=(w.alloc (.cells #[.slice none 0 0,.int .i64 0] 42)).alloc (.cells #[.slice none 0 0,.int .i64 0] 42):=⟨_,rfl⟩;rw[<-hW2]at hb hA hP ⊢;clear hW2;obtain⟨c0,c1,-,-⟩:=hP.two;obtain⟨d0,d1,f0,f1⟩:=hA.two;have hz:=hA.lt
 go_cut [34] (fun v wx=>v=.bool false/\wx=w2)
 case first=>
  rcases hmode with rfl|rfl
  all_goals
   exact QGe
 case rest=>
  obtain⟨rfl,rfl⟩:=hcut;go_upto_region 6 with fail
  go_quiet (fail)
  by_cases hpr:32<=key/\key≠127
  ·have HK:=Zy (Gy mode key 0 hmode hpr)
   obtain⟨k1,k2⟩:=hpr;have g1:(key !=127)=true:=by simpa using k2
   have Ev:=iD (wc.drewN nq) key;have hres:=(hA.drewN nq).alloc (.cells #[.int .i64 key] 3);have hbw:=(below_drewN (ZR wc (.cells #[.int .i64 key] 3)) nq);obtain⟨mb,hmb⟩:∃mb:Bool,(mode==2)=mb:=⟨_,rfl⟩;go_upto_region 25 with fail
   all_goals
    obtain⟨w3,hw3⟩:∃w3,w3=(wc.drewN nq).alloc (.cells #[.int .i64 key] 3):=⟨_,rfl⟩;have hB3:Below wc.heap.size wc w3:=by rw[hw3];exact(below_drewN (ZH _ _) nq).alloc (ZB _) _
    rw[show(wc.drewN nq).heap.size=wc.heap.size from rfl]at Ev;rw[<-hw3]at Ev hres ⊢;have e0:=Zd hB3 _ _ c0;have hz3:w.heap.size+1<w3.heap.size:=hres.lt;have hbx:=ZE hb hb.size hB3;clear hw3 c0 c1 d0 d1 f0 f1 hA hP hb;have Ll:=(Ot w3 22 (n0:=0) (n1:=1) (n2:=0) 0 1 0 (Ints.nil w3 none) Ev (Ints.nil w3 none) rfl rfl rfl QJ QJ QJ (fun _=>rfl) (fun h=>QEj) (fun _=>rfl)).drew;have hck:=ZR w3 (.cells #[.slice none 0 0,.slice (some ⟨wc.heap.size,0,none⟩) 1 1,.slice none 0 0] 22);generalize wc.heap.size=G3 at Ll hck Ev ⊢;have iw:IntKind.i64.wrap (1:Int)=1:=QDJ
    go_region_law (first|(go_simp;go_at_call 123;refine(WZ _ 3 _ _ _ _ _ Ll QQ).mono ?_;rintro e w8 ⟨v8,rfl,o8,XH⟩;obtain⟨a8,n8,c8,rfl⟩:=o8.form;have Lf:Za w8 (w.heap.size+1) #[.slice none 0 0,.int .i64 0] 42:=Za.below ((hres.alloc _).drew) XH (by show _<(w3.alloc _).heap.size;rw[Zu];omega);obtain⟨kd0,kd1,kf0,kf1⟩:=Lf.two))
    all_goals
     have Jp:Below w3.heap.size w3 w8:=hck.drew.trans (XH.mono (by show _<=(w3.alloc _).heap.size;rw[Zu];omega));rw[Nw]at o8;have hG:=((Lf.set 0 (.slice a8 n8 c8)).set 1 (.int .i64 1));obtain⟨y0,y1,-,-⟩:=Za.two hG;have o8:=o8.mono (base':=w3.heap.size+1) (by show w3.heap.size+1<=(w3.alloc _).heap.size;rw[Zu];omega);have o9:=(o8.setCell (a:=⟨w.heap.size+1,0,none⟩) QDs (.slice a8 n8 c8)).setCell (a:=⟨w.heap.size+1,1,none⟩) QDs (.int .i64 1);go_simp;go_wp2;refine ZC (v:=.tuple #[.agg #[.slice a8 n8 c8,.int .i64 1],.int .i64 0]) QA rfl ?_;refine Y3.of (hcap:=o9.QJa (by have:=hbx.size;omega)) HK.out (fun h=>absurd h hnb) (by simpa using o9.get.2.1) (by simpa using o9.get.1) (by have:=o9.get.1;simp at this;omega) ?_;exact QIM
  ·by_cases h4:key≠8/\key≠127/\key≠21/\key≠23
   ·have HK:=Zy (Gz mode key 0 hmode hpr h4)
    obtain⟨k1,k2,k3,k4⟩:=h4;have g1:(key !=8)=true:=by simpa using k1
    have g2:(key !=127)=true:=by simpa using k2
    have g3:(key !=21)=true:=by simpa using k3
    have g4:(key !=23)=true:=by simpa using k4
    have k5:¬32<=key:=fun h=>hpr ⟨h,k2⟩
    clear hpr;go_wp2;obtain⟨y0,y1,-,-⟩:=Za.two (((hA.drewN nq).set 0 (.slice none 0 0)).set 1 (.int .i64 0));refine ZC (v:=.tuple #[.agg #[.slice none 0 0,.int .i64 0],.int .i64 9]) QA rfl ?_;exact QH3
   ·have HK:=Zy (DV mode key 0 hmode hpr h4)
    have h5:key=8\/key=127\/key=21\/key=23:=QQ;clear hpr h4;rcases h5 with rfl|rfl|rfl|rfl
    all_goals
     go_wp2;obtain⟨y0,y1,-,-⟩:=Za.two (((hA.drewN nq).set 0 (.slice none 0 0)).set 1 (.int .i64 0));refine ZC (v:=.tuple #[.agg #[.slice none 0 0,.int .i64 0],.int .i64 5]) QA rfl ?_;exact QH3
theorem ve{l:List Int}{big:Bool}{q r:Int}(h:KL l big q r)(hq:0<q)(hql:q<=l.length):0<=r/\r<=q:=by
 obtain⟨k1,⟨h1,h2,h3⟩,h4⟩:=h;rcases h4 with⟨h5,rfl⟩|⟨h5,h6,h7,h8⟩
 ·omega
 ·refine⟨?_,QQ⟩
  rcases Yz r 0 with hr|hr
  ·have:=h7 (-1) QQ QQ
   rw[UM (.inl QQ)]at this;have:=kK (l:=l) (big:=big) (k:=k1) h5 QQ;omega
  ·exact hr
section
variable {xs:List Int} {q:Nat} {mode key b:Int} (h1:xs.length<=200) (h2:q<=xs.length) (hm:mode=1\/mode=2)
include h1 h2 hm
theorem TR:JV xs q mode key b=(if 32<=key/\key≠127 then
  if mode=2/\(q:Int)<xs.length then(xs.take q++[key]++xs.drop (q+1),(q:Int)+1,0)
  else if xs.length=200 then([],0,8)else(xs.take q++[key]++xs.drop q,(q:Int)+1,0)
 else if key≠8/\key≠127/\key≠21/\key≠23 then([],0,9)
 else if(q:Int)=0 then([],0,5)
 else if key=21 then(xs.drop q,0,0)
 else if key=23 then(xs.take b.toNat++xs.drop q,b,0)
 else if mode=2 then(xs,(q:Int)-1,0)
 else(xs.take (q-1)++xs.drop q,(q:Int)-1,0)):=by
 unfold JV;rw[if_neg QQ,if_neg QQ,XK]
end
theorem Dv(ad:Addr)(n c q:Nat)(xs:List Int)(mode key:Int)(w:World)(ha:Ints w (some ad) xs)(hn:xs.length=n)(hc:n<=c)(hc2:c<=9223372036854775807)(iR:n<=200)(hqn:q<=n)(hmode:mode=1\/mode=2):
  Calls Tryz.prog 84 #[.agg #[.slice (some ad) n c,.int .i64 (q:Int)],.int .i64 mode,.int .i64 key] w (Y3 True (KL xs false q) xs q mode key w):=by
 have HKH:=Zy (fun b=>TR (xs:=xs) (q:=q) (mode:=mode) (key:=key) (b:=b) QQ QQ hmode);have hub:U8 xs q mode key->key=23:=fun h=>h.2.2.2.2
 have QUm:U8 xs q mode key->0<q:=fun h=>by have:=h.2.1;omega
 have HN:=Zy hn;clear hn;have hb:=Zo w (.cells #[.slice (some ad) n c,.int .i64 (q:Int)] 42) (.cells #[.slice none 0 0,.int .i64 0] 42);have hA:=Za.new (w.alloc (.cells #[.slice (some ad) n c,.int .i64 (q:Int)] 42)) #[.slice none 0 0,.int .i64 0] 42;have hP:=(Za.new w #[.slice (some ad) n c,.int .i64 (q:Int)] 42).alloc (.cells #[.slice none 0 0,.int .i64 0] 42);rw[Zu]at hA;go_enter Tryz.func84,Tryz.ntmps84
 go_upto_region 4 with fail
 obtain⟨w2,hW2⟩:∃w2,w2=(w.alloc (.cells #[.slice (some ad) n c,.int .i64 (q:Int)] 42)).alloc (.cells #[.slice none 0 0,.int .i64 0] 42):=⟨_,rfl⟩;rw[<-hW2]at hb hA hP ⊢;clear hW2;have ha2:=ha.below hb;obtain⟨c0,c1,-,-⟩:=hP.two;obtain⟨d0,d1,f0,f1⟩:=hA.two;have hz:=hA.lt
 go_cut [34] (fun v wx=>v=.bool false/\wx=w2)
 case first=>
  rcases hmode with rfl|rfl
  all_goals
   go_wp2;go_meet;exact⟨QY,rfl⟩
 obtain⟨rfl,rfl⟩:=hcut;go_upto_region 6 with fail
 go_quiet (fail)
 go_upto_block 0 with fail
 have hb0:=below_drewN (ZH wc.heap.size wc) nq
 go_cut [9,10,11] (fun f t x wx=>∃(fn tn:Nat) (a3:Option Addr) (n3 c3:Nat),f=.int .i64 (fn:Int)/\t=.int .i64 (tn:Int)/\x=.slice a3 n3 c3/\Ready w wc wx (KL xs false q) (some ad) n c xs q mode key fn tn a3 n3 c3)
 case first=>
  by_cases hpr:32<=key/\key≠127
  ·have HK1:=Zy (fun b=>by rw[HKH.out b,if_pos hpr]:∀b,JV xs q mode key b=if mode=2/\(q:Int)<xs.length then(xs.take q++[key]++xs.drop (q+1),(q:Int)+1,0)else if xs.length=200 then([],0,8)else(xs.take q++[key]++xs.drop q,(q:Int)+1,0))
   obtain⟨k1,k2⟩:=hpr;have g1:(key !=127)=true:=by simpa using k2
   have hnb:¬U8 xs q mode key:=fun h=>QEn
   have Ev:=iD (wc.drewN nq) key;by_cases hov:mode=2/\(q:Int)<(n:Int)
   ·have HK:=Zy (show JV xs q mode key 0=(xs.take q++[key]++xs.drop (q+1),(q:Int)+((1:Nat):Int),0) by rw[HK1.out,if_pos QFU];rfl)
    obtain⟨m1,m2⟩:=hov;have g2:(mode==2)=true:=by simpa using m1
    clear hmode m1;go_wp2;go_meet;exact⟨q,q+1,_,1,1,rfl,Qy,rfl,QQ,QQ,⟨[key],0,Ev,rfl,HK.out,fun h=>absurd h hnb⟩,QQ,(fun h=>QEj),(hP.drewN nq).alloc _,(hA.drewN nq).alloc _,hb0.alloc hb0.size _⟩
   ·by_cases h2:n=200
    ·have HK:=Zy (show JV xs q mode key 0=([],0,8) by rw[HK1.out,if_neg QFU,if_pos (by rw[HN.out];exact h2)])
     have g5:((n:Int)==200)=true:=QY;have hb4:=hb0.alloc hb0.size (.cells #[.int .i64 key] 3);have UY:=(hA.drewN nq).alloc (.cells #[.int .i64 key] 3);obtain⟨e0,e1,e2,e3⟩:=UY.two;obtain⟨y0,y1,-,-⟩:=Za.two ((UY.set 0 (.slice none 0 0)).set 1 (.int .i64 0));have HBZ:=Zy ((ZE hb hb.size hb4).setCell (p:=⟨w.heap.size+1,0,none⟩) (ZA _) (.slice none 0 0) |>.setCell (p:=⟨w.heap.size+1,1,none⟩) (ZA _) (.int .i64 0));have i3:(n:Int)=200:=QQ;by_cases hm2:mode=2
     ·have g2:(mode==2)=true:=by simpa using hm2
      have g3:¬(q:Int)<(n:Int):=fun h=>hov ⟨hm2,h⟩
      have g4:¬q<n:=QQ;exact QHf
     ·have g2:(mode==2)=false:=by simpa using hm2
      exact QHf
    ·have HK:=Zy (show JV xs q mode key 0=(xs.take q++[key]++xs.drop q,(q:Int)+((1:Nat):Int),0) by rw[HK1.out,if_neg QFU,if_neg (by rw[HN.out];exact h2)];rfl)
     have i2:((n:Int)==200)=false:=QY;by_cases hm2:mode=2
     ·have g2:(mode==2)=true:=by simpa using hm2
      have g4:q=n:=by have:¬(q:Int)<(n:Int):=fun h=>hov ⟨hm2,h⟩;omega
      subst g4;exact QHO
     ·have g2:(mode==2)=false:=by simpa using hm2
      exact QHO
  ·have HK1:=Zy (fun b=>by rw[HKH.out b,if_neg hpr]:∀b,JV xs q mode key b=if key≠8/\key≠127/\key≠21/\key≠23 then([],0,9)else if(q:Int)=0 then([],0,5)else if key=21 then(xs.drop q,0,0)else if key=23 then(xs.take b.toNat++xs.drop q,b,0)else if mode=2 then(xs,(q:Int)-1,0)else(xs.take (q-1)++xs.drop q,(q:Int)-1,0))
   obtain⟨y0,y1,-,-⟩:=Za.two (((hA.drewN nq).set 0 (.slice none 0 0)).set 1 (.int .i64 0));have hbz:=(below_drewN hb nq).setCell (p:=⟨w.heap.size+1,0,none⟩) (ZA _) (.slice none 0 0) |>.setCell (p:=⟨w.heap.size+1,1,none⟩) (ZA _) (.int .i64 0)
   by_cases h4:key≠8/\key≠127/\key≠21/\key≠23
   ·have HK:=Zy (show JV xs q mode key 0=([],0,9) by rw[HK1.out,if_pos h4])
    have hnb:¬U8 xs q mode key:=fun h=>QEn
    obtain⟨k1,k2,k3,k4⟩:=h4;have g1:(key !=8)=true:=by simpa using k1
    have g2:(key !=127)=true:=by simpa using k2
    have g3:(key !=21)=true:=by simpa using k3
    have g4:(key !=23)=true:=by simpa using k4
    have k5:¬32<=key:=fun h=>hpr ⟨h,k2⟩
    clear hpr;go_wp2;refine ZC (v:=.tuple #[.agg #[.slice none 0 0,.int .i64 0],.int .i64 9]) QA rfl ?_;exact Y3.of HK.out (fun h=>absurd h hnb) (.inl rfl) rfl QQ hbz
   ·have h5:key=8\/key=127\/key=21\/key=23:=by omega
    by_cases hq0:q=0
    ·subst hq0
     have HK:=Zy (show JV xs (0:Nat) mode key 0=([],0,5) by rw[HK1.out,if_neg h4];exact if_pos rfl);have hnb:¬U8 xs (0:Nat) mode key:=fun h=>by have:=QUm h;omega
     clear hpr h4;rcases h5 with rfl|rfl|rfl|rfl
     all_goals
      go_wp2;refine ZC (v:=.tuple #[.agg #[.slice none 0 0,.int .i64 0],.int .i64 5]) QA rfl ?_;exact Y3.of HK.out (fun h=>absurd h hnb) (.inl rfl) rfl QQ hbz
    ·have hqi:¬(q:Int)=0:=by omega
     have Da:=Zy (fun b=>by rw[HK1.out b,if_neg h4,if_neg hqi]:∀b,JV xs q mode key b=if key=21 then(xs.drop q,0,0)else if key=23 then(xs.take b.toNat++xs.drop q,b,0)else if mode=2 then(xs,(q:Int)-1,0)else(xs.take (q-1)++xs.drop q,(q:Int)-1,0));by_cases h21:key=21
     ·have HK:=Zy (show JV xs q mode key 0=(xs.take 0++[]++xs.drop q,((0:Nat):Int)+((0:Nat):Int),0) by rw[Da.out,if_pos h21];simp)
      subst h21;have hnb:¬U8 xs q mode 21:=fun h=>QEn
      clear hpr h4 h5;go_wp2;go_meet;exact⟨0,q,_,0,0,rfl,rfl,rfl,QQ,QQ,⟨[],0,.inl rfl,rfl,HK.out,fun h=>absurd h hnb⟩,QQ,fun _=>rfl,hP.drewN nq,hA.drewN nq,hb0⟩
     ·by_cases h23:key=23
      ·have HK3:=Zy (fun b=>by rw[Da.out b,if_neg h21,if_pos h23]:∀b,JV xs q mode key b=(xs.take b.toNat++xs.drop q,b,0))
       subst h23;clear hpr h4 h5 h21;go_wp2_with fail
       refine(yu (some ad) n c xs false (q:Int) _ (ha2.drewN nq) HN.out QQ QQ QQ).mono ?_;rintro e w5 ⟨r,rfl,hwb,hb5⟩;obtain⟨hr0,hr1⟩:=ve hwb QQ QB;obtain⟨rn,rfl⟩:=Zw hr0;have HK:=Zy (show JV xs q mode 23 (rn:Int)=(xs.take rn++[]++xs.drop q,(rn:Int)+((0:Nat):Int),0) by rw[HK3.out];simp);have HWB:=Zy hwb;clear hwb;have hb6:Below wc.heap.size wc w5:=ZE hb0 hb0.size hb5;go_wp2;go_meet;exact⟨rn,q,_,0,0,rfl,rfl,rfl,QQ,QQ,⟨[],rn,.inl rfl,rfl,HK.out,fun _=>HWB.out⟩,QQ,fun _=>rfl,hP.below hb6 hP.lt,hA.below hb6 hA.lt,hb6⟩
      ·have h8:key=8\/key=127:=by omega
       have hnb:¬U8 xs q mode key:=fun h=>QEn
       by_cases hm2:mode=2
       ·have HK:=Zy (show JV xs q mode key 0=(xs,(q:Int)-1,0) by rw[Da.out,if_neg h21,if_neg h23,if_pos hm2])
        have g2:(mode==2)=true:=by simpa using hm2
        clear hpr h4 h5 h21 h23 hmode hm2;rcases h8 with rfl|rfl
        all_goals
         go_wp2_with fail
         refine(XY (some ad) n c xs _ (ha2.drewN nq) HN.out QQ (fun h=>QEj)).mono ?_;rintro e w5 ⟨v5,rfl,o5,hb5⟩;obtain⟨a5,n5,c5,rfl⟩:=o5.form;have hb6:Below wc.heap.size wc w5:=ZE hb0 hb0.size hb5;have Kn:=hA.below hb6 hA.lt;obtain⟨e0,e1,e2,e3⟩:=Kn.two;go_wp2;obtain⟨z0,z1,-,-⟩:=Za.two ((Kn.set 0 (.slice a5 n5 c5)).set 1 (.int .i64 ((q:Int)-1)));refine ZC (v:=.tuple #[.agg #[.slice a5 n5 c5,.int .i64 ((q:Int)-1)],.int .i64 0]) (by simp[results,Tryz.results84,go_sem,z0,z1]) rfl ?_;have o6:=(o5.setCell (a:=⟨w.heap.size+1,0,none⟩) (show w.heap.size+1<wc.heap.size from hz) (.slice a5 n5 c5)).setCell (a:=⟨w.heap.size+1,1,none⟩) (show w.heap.size+1<wc.heap.size from hz) (.int .i64 ((q:Int)-1));exact Y3.of (hcap:=o6.QJa (show w.heap.size<=wc.heap.size from hb.size)) HK.out (fun h=>absurd h hnb) o6.get.2.1 o6.get.1 (by have:=o6.get.1;have:=HN.out;omega) ((ZE hb hb.size hb6).setCell (p:=⟨w.heap.size+1,0,none⟩) (ZA _) _ |>.setCell (p:=⟨w.heap.size+1,1,none⟩) (ZA _) _)
       ·have HK:=Zy (show JV xs q mode key 0=(xs.take (q-1)++[]++xs.drop q,((q-1:Nat):Int)+((0:Nat):Int),0) by rw[Da.out,if_neg h21,if_neg h23,if_neg hm2];simp;omega)
        have g2:(mode==2)=false:=by simpa using hm2
        clear hpr h4 h5 h21 h23 hmode hm2;rcases h8 with rfl|rfl
        all_goals
         go_wp2;go_meet;exact⟨q-1,q,_,0,0,Qy,rfl,rfl,QQ,QQ,⟨[],0,.inl rfl,rfl,HK.out,fun h=>absurd h hnb⟩,QQ,fun _=>rfl,hP.drewN nq,hA.drewN nq,hb0⟩
 case rest=>
  obtain⟨fn,tn,a3,n3,c3,rfl,rfl,rfl,hR⟩:=hcut;have HR:=Zy hR;have hbx:=ZE hb hb.size HR.out.Xw;have hac:=ha2.below HR.out.Xw;clear c0 c1 d0 d1 f0 f1 hP hA hz hb ha ha2 hb0;obtain⟨c0,c1,-,-⟩:=hR.box.two;have hres:=hR.res;obtain⟨d0,d1,f0,f1⟩:=hres.two;have hz:=hres.lt;have hf:=hR.f1;have ht:=hR.t1;have vD:=hR.top;clear hR;go_upto_region 25 with fail
  obtain⟨ys,b,Ev,hl3,hkey,hbk⟩:=HR.out.pieces;have H3:=Zy HR.out.nil;have HL3:=Zy hl3;have HK:=Zy hkey;have HBK:=Zy hbk;clear hl3 hkey hbk HR HKH hub QUm;have L1:=Zy (show(xs.take fn).length=fn from QEO);have L2:=Zy (show(xs.drop tn).length=n-tn by rw[Xk,HN.out]);have hfc:fn<=c:=QQ;have i1:(fn:Int)<=(c:Int):=QQ;obtain⟨aa,Ra⟩:∃aa,(if c=tn then some ad else some (ad.add tn))=aa:=⟨_,rfl⟩;have hI2:Ints wc aa (xs.drop tn):=by
   rw[<-Ra];split
   ·exact .inl (List.drop_eq_nil_of_le QB)
   ·exact hac.QXW tn
  have hz2:aa=none->n-tn=0:=by
   rw[<-Ra];intro h;split at h<;>cases h
  have Ll:=(Ot wc 22 c c3 (c-tn) (hac.take fn) Ev hI2 L1.out HL3.out L2.out QQ QQ QQ (fun h=>QEj) H3.out hz2).drew;have hck:=ZR wc (.cells #[.slice (some ad) fn c,.slice a3 n3 c3,.slice aa (n-tn) (c-tn)] 22);have HKL:=Zy (show((xs.take fn++ys++xs.drop tn).length)=fn+n3+(n-tn) by rw[ZN,ZN,L1.out,HL3.out,L2.out]);clear hI2 Ev hac hz2;have iw:IntKind.i64.wrap ((fn:Int)+(n3:Int))=(fn:Int)+(n3:Int):=QDJ
  go_region_law (first|(go_simp;go_at_call 123;refine(WZ _ 3 _ _ _ _ _ Ll QQ).mono ?_;rintro e w8 ⟨v8,rfl,o8,XH⟩;obtain⟨a8,n8,c8,rfl⟩:=o8.form;have Lf:Za w8 (w.heap.size+1) #[.slice none 0 0,.int .i64 0] 42:=Za.below ((hres.alloc _).drew) XH (by show _<(wc.alloc _).heap.size;rw[Zu];omega);obtain⟨kd0,kd1,kf0,kf1⟩:=Lf.two))
  all_goals
   have Jp:Below wc.heap.size wc w8:=hck.drew.trans (XH.mono (by show _<=(wc.alloc _).heap.size;rw[Zu];omega));rw[Nw]at o8;have hG:=((Lf.set 0 (.slice a8 n8 c8)).set 1 (.int .i64 ((fn:Int)+(n3:Int))));obtain⟨y0,y1,-,-⟩:=Za.two hG;have o8:=o8.mono (base':=wc.heap.size+1) (by show wc.heap.size+1<=(wc.alloc _).heap.size;rw[Zu];omega);have o9:=(o8.setCell (a:=⟨w.heap.size+1,0,none⟩) QDs (.slice a8 n8 c8)).setCell (a:=⟨w.heap.size+1,1,none⟩) QDs (.int .i64 ((fn:Int)+(n3:Int)));go_simp;go_wp2;refine ZC (v:=.tuple #[.agg #[.slice a8 n8 c8,.int .i64 ((fn:Int)+(n3:Int))],.int .i64 0]) QA rfl ?_;refine Y3.of (hcap:=o9.QJa (by have:=hbx.size;omega)) HK.out HBK.out o9.get.2.1 o9.get.1 (by have:=o9.get.1;have:=HKL.out;omega) ?_;exact QIM
end Go.Proofs.YtmdnepkekekncaaGreat
