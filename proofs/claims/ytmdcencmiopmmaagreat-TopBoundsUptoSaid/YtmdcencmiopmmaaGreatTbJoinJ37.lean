/- LiftTopBounds: joined, no condition of its own. -/
import Derived.Test.YtmdcencmiopmmaaGreatTbJoinT
import Derived.Test.YtmdcencmiopmmaaGreatTbJoinJ19
import Derived.Test.YtmdcencmiopmmaaGreatTbJoinJ31
import Derived.Test.YtmdcencmiopmmaaGreatTbJoinJ34
import Derived.Test.YtmdcencmiopmmaaGreatTbJoinJ36
set_option linter.unusedVariables false
set_option linter.unusedSimpArgs false
set_option maxRecDepth 100000
set_option maxHeartbeats 12000000
namespace Go.Proofs.YtmdcencmiopmmaaGreat
open Go.RowKit
theorem tX(W0 W:World)(S:SS)(a:Option Addr)(n k q:Nat)(vs:List Value)(c:C5)(hn:n=S.text.length)(hq:q=S.pos.toNat):Fh ⟨W,a,n,k,S.text,q,vs,S.regs⟩ c S.fk S.fa=S.kg W0 c:=by
 subst hn hq;unfold SS.kg SL Fh Fg ji Aq Be DC Te Ja;rfl
structure DoQ (W0:World) (S:SS) (c:C5) (w1 wx:World) (R:Nat) (rs:List Value):Prop where
 lo:w1.heap.size<=R
 blk:ZY wx R rs 277
 res:OT w1.heap.size wx rs (S.kg W0 c).2
 XW:Below w1.heap.size w1 wx
theorem QUu{W0:World}{S:SS}{c:C5}{w1 w8:World}{rs:List Value}{b:Nat}(hb:w1.heap.size<=b)(r8:FE b w8 rs (S.kg W0 c).2)(JR:Below w1.heap.size w1 w8):DoQ W0 S c w1 ((w8.alloc V5).setCells w8.heap.size 0 rs) w8.heap.size rs:=by
 have hR:=yg (w:=w8) rfl;have h2:=hR.setCells 0 rs;rw[UK (by rw[X9,r8.lr])]at h2;exact⟨JR.size,h2,(r8.rsv.moved (fun k _ hk=>by rw[(Xq rs _ 0).1 k (by omega)];exact(QC w8 V5).block k hk)).mono hb,below_setCells JR.size rs 0 (QR.alloc JR)⟩
theorem QUk{W0:World}{S:SS}{c:C5}{w1 w8:World}{rs:List Value}{b R:Nat}(hR:ZY w8 R Zo 277)(hlo:w1.heap.size<=R)(hb:R<b)(r8:FE b w8 rs (S.kg W0 c).2)(JR:Below w1.heap.size w1 w8):DoQ W0 S c w1 (w8.setCells R 0 rs) R rs:=by
 have h2:=hR.setCells 0 rs;rw[UK (by rw[X9,r8.lr])]at h2;exact⟨hlo,h2,(r8.rsv.moved (fun k hk _=>(Xq rs w8 0).1 k (by omega))).mono (by omega),below_setCells hlo rs 0 JR⟩
def VY(S:SS)(c:C5):SS:=if DX c then {S.save with now:=some (c,[])}else S
def gW(S1:SS)(s:St):SS:={S1 with text:=s.O,pos:=s.p,regs:=s.Y,fk:=s.fk,fa:=s.fa,mode:=s.md}
theorem QX8(W0:World)(S:SS)(c:C5)(h:(S.kg W0 c).1=0):S.Ju W0 c=(if(S.kg W0 c).2.md=0/\(VY S c).now.isSome then {gW (VY S c) (S.kg W0 c).2 with last:=(VY S c).now,now:=none}else gW (VY S c) (S.kg W0 c).2,true):=by
 unfold SS.Ju;rw[if_neg (fun e=>e h)];rfl
theorem tQ(W0:World)(S:SS)(c:C5)(h:(S.kg W0 c).1≠0):S.Ju W0 c=(S.Xa,false):=by
 unfold SS.Ju;rw[if_pos h]
theorem Gv(W0:World)(F G:Nat->Prop)(B K:Nat)(S:SS)(c:C5)(w:World)(h:Zw F G w B S)(hI:Qt K S)(hm:S.mode=0)(hc:Uq c)(hn:S.told.length<=4398046511103):
  Calls Tryz.prog 141 #[.pointer (some ⟨B,0,none⟩),.agg #[.int .i64 c.a,.int .i64 c.b,.int .i64 c.c,.int .i64 c.d,.int .i64 c.e]] w fun e w'=>e=.returned (.bool (S.Ju W0 c).2)/\VPs F G w B (S.Ju W0 c).1 w':=by
 obtain⟨f,hf⟩:=h;have hb1:=QC w (.cells #[.int .i64 c.a,.int .i64 c.b,.int .i64 c.c,.int .i64 c.d,.int .i64 c.e] 87);have Yw:=QD.new w #[.int .i64 c.a,.int .i64 c.b,.int .i64 c.c,.int .i64 c.d,.int .i64 c.e] 87;have hA1:=(At.begin hf).below hb1;have hFC:Fx F w (w.alloc (.cells #[.int .i64 c.a,.int .i64 c.b,.int .i64 c.c,.int .i64 c.d,.int .i64 c.e] 87)) w.heap.size:=.inr ⟨QU _,by simp⟩;obtain⟨q,hq⟩:∃q:Nat,S.pos=q:=⟨S.pos.toNat,by have:=hI.p0;omega⟩;have hBl:=hf.yH;have HI:=QQ hI;have HN:=QQ hn;have HQ:=QQ hq;have HM:=QQ hm;clear hI hn hq hf hb1;go_enter Tryz.func141,Tryz.ntmps141
 go_upto_region 1 with fail
 generalize(w.alloc (.cells #[.int .i64 c.a,.int .i64 c.b,.int .i64 c.c,.int .i64 c.d,.int .i64 c.e] 87))=w1 at *;have hdr:w1.drew.heap.size=w1.heap.size:=rfl;obtain⟨d0,d1,d2,d3,d4⟩:=QD.five Yw;have Jl:=hA1.hf.cell 30;have c31:=hA1.hf.cell 31;rw[hA1.hf.d.fk]at Jl;rw[hA1.hf.d.fa]at c31;have hr:=hA1.hf.range;have HA1:=QQ hA1;have yV:=QQ (fun(w':World) (hb:Below w1.heap.size w1 w')=>A9 _ _ B S w' ⟨f,(HA1.out.Xw hb).hf⟩ (by have:=HI.out.tl;omega));have aF:=QQ (fun(W:World) (a:Option Addr) (n k:Nat) (vs:List Value) (hn:n=S.text.length)=>tX W0 W S a n k q vs c hn (by have:=HQ.out;omega));have HIO:=QQ (fun(W:World) (hb:Below w1.heap.size w1 W) (a:Option Addr) (k:Nat) (hk:S.text.length<=k) (hk2:k<=9223372036854775807) (hi:Ints W a S.text) (h0:a=none->S.text.length=0)=>eF W0 HI.out (.inl HM.out) hk hk2 hi h0 (HA1.out.Xw hb).hf.O4);have hSq:S.pos.toNat=q:=by have:=HQ.out;omega
 rw[hSq]at HIO;have HDM:=QQ (fun(W:World) (hb:Below w1.heap.size w1 W) (a:Option Addr) (k:Nat) (hk:S.text.length<=k) (hk2:k<=9223372036854775807) (hi:Ints W a S.text) (h0:a=none->S.text.length=0)=>
  (show Calls Tryz.prog 202 #[.agg #[.slice a S.text.length k,.int .i64 (q:Int)],.agg (ZT (O5 f)),.agg #[.int .i64 S.fk,.int .i64 S.fa],.agg #[.int .i64 c.a,.int .i64 c.b,.int .i64 c.c,.int .i64 c.d,.int .i64 c.e]] W (aR (S.kg W0 c).1 (S.kg W0 c).2 W)from by
   have:=gU ⟨W,a,S.text.length,k,S.text,q,O5 f,S.regs⟩ (HIO.out W hb a k hk hk2 hi h0) S.fk S.fa c hc.1 hc.2;rw[aF.out _ _ _ _ _ rfl]at this;exact this))
 clear hA1 hSq HIO aF;have hB1:B<w1.heap.size:=HA1.out.hf.yH;have sU:w.heap.size<w1.heap.size:=Yw.lt;have hal:=Io;have hu:=Yb;have hz:(Tryz.prog.info? 36).map (·.size)=some (O5 f).length:=YU
 go_cut [5,6] (fun v5 v6 wx=>∃R rs,v5=.pointer (some ⟨R,0,none⟩)/\v6=.int .i64 (S.kg W0 c).1/\DoQ W0 S c w1 wx R rs)
 case first=>
  go_region_held3 (fun w'=>w'.cell? ⟨B,30,none⟩=some (.int .i64 S.fk)/\w'.cell? ⟨B,31,none⟩=some (.int .i64 S.fa)/\w'.rangeAt B 3 (O5 f)/\w'.cell? ⟨w.heap.size,0,none⟩=some (.int .i64 c.a)/\w'.cell? ⟨w.heap.size,1,none⟩=some (.int .i64 c.b)/\w'.cell? ⟨w.heap.size,2,none⟩=some (.int .i64 c.c)/\w'.cell? ⟨w.heap.size,3,none⟩=some (.int .i64 c.d)/\w'.cell? ⟨w.heap.size,4,none⟩=some (.int .i64 c.e)/\Below w1.heap.size w1 w') (first|exact⟨Jl,c31,hr,d0,d1,d2,d3,d4,(Qx _ _).drew⟩|(with_reducible assumption)|exact QX9 hB1 sU ‹_› ‹_› | exact QUA hB1 sU ‹_› _|exact QUv hB1 sU ‹_› _ _ ‹_›)
   (first|(go_at_call 42;refine(yV.out _ ?_).mono ?_;(·repeat' (first|(with_reducible exact Qx _ _)|(with_reducible refine QR.alloc ?_)|(with_reducible refine QR.drew ?_)));rintro e w5 ⟨v5,rfl,o5,hb5⟩;rw[HQ.out];obtain⟨a5,n5,k5,rfl⟩:=o5.form;have Yu:Below w1.heap.size w1 w5:=(by refine QR.call hb5 ?_;repeat' (first|(with_reducible exact Qx _ _)|(with_reducible refine QR.alloc ?_)|(with_reducible refine QR.drew ?_)));have s5:=o5.sl)|(go_at_call 202;obtain⟨rfl,-⟩:n5=S.text.length/\True:=⟨o5.get.1.symm,trivial⟩;refine(HDM.out _ ?_ a5 k5 ?_ ?_ ?_ ?_).mono ?_;(·repeat' (first|(with_reducible exact Yu)|(with_reducible exact Qx _ _)|(with_reducible refine QR.alloc ?_)|(with_reducible refine QR.drew ?_)));(·exact o5.cap.1);(·exact o5.cap.2.1);(·first|exact o5.get.2.1|exact o5.get.2.1.below (QC _ _));(·exact fun e=>s5.get.2.2.2.2 e);rintro e w8 ⟨rs,rfl,r8,ZU⟩;have JR:Below w1.heap.size w1 w8:=(by refine QR.call ZU ?_;repeat' (first|(with_reducible exact Yu)|(with_reducible exact Qx _ _)|(with_reducible refine QR.alloc ?_)|(with_reducible refine QR.drew ?_)));have Vf:=r8.lr;have O9:=r8.one;have yM:(Tryz.prog.info? 277).map (·.size)=some rs.length:=VM.trans (XQ some Vf.symm);(first|(refine qm (P:=ZY w8 (w1.heap.size) Zo 277) ?_ ?_;(·repeat' (first|((with_reducible refine vL ?_);(first|rfl|(simp;done)))|(with_reducible refine ZY.Xu ZU ?_)|(with_reducible refine ZY.Xu hb5 ?_)|(with_reducible refine ZY.YT ?_)|(with_reducible refine ZY.alloc ?_ _)));intro K7;have QZ3:=BC K7.GL Vf O9;have hq8:=QU w1.heap.size)|(refine qm (P:=ZY w8 (w5.heap.size) Zo 277) ?_ ?_;(·repeat' (first|((with_reducible refine vL ?_);(first|rfl|(simp;done)))|(with_reducible refine ZY.Xu ZU ?_)|(with_reducible refine ZY.Xu hb5 ?_)|(with_reducible refine ZY.YT ?_)|(with_reducible refine ZY.alloc ?_ _)));intro K7;have QZ3:=BC K7.GL Vf O9;have hq8:=Yu.size)|(have QZ3:=Po (w:=w8) Vf O9;have hq8:=JR.size))))
  all_goals
   go_wp2;go_meet;first|exact⟨_,_,rfl,rfl,QUk K7 hq8 (by have:=hb5.size;simp at this ⊢;try omega) r8 JR⟩|exact⟨_,_,rfl,rfl,QUu Yu.size r8 JR⟩
 case rest=>
  obtain⟨R,rs,rfl,rfl,hQ⟩:=hcut;have hA2:=HA1.out.below hQ.XW;have e0:=Qk hQ.XW _ _ d0;have e1:=Qk hQ.XW _ _ d1;have e2:=Qk hQ.XW _ _ d2;have e3:=Qk hQ.XW _ _ d3;have e4:=Qk hQ.XW _ _ d4;clear Jl c31 hr d0 d1 d2 d3 d4 yV HDM hal hu hz;have HA2:=QQ hA2;have nZ:=QQ hQ;by_cases hE:(S.kg W0 c).1=0
  ·have HD:=QQ (QX8 W0 S c hE)
   have QXe:(S.kg W0 c).2.O.length<=200:=(TR (MQ W0 HI.out (.inl HM.out)) HI.out.rs hE).len;rw[hE];clear hE hA2 hQ;generalize hs:(S.kg W0 c).2=s at HD QXe;go_upto_if 27 with(go_at_call 203;refine(GD c _).mono ?_;rintro e w3 ⟨rfl,hb3⟩)
   have hA3:=HA2.out.Xw hb3;have yz:=QQ hA3;have HS3:=QQ (Same.below (F:=Fx (Fx F w w1) w1 wc) (HA2.out.Sy) hb3)
   go_cut [28] (fun _ wx=>∃F3 f3,At F G w F3 wx B f3 (VY S c)/\(∀k,Fx (Fx F w w1) w1 wc k->F3 k)/\Same (Fx (Fx F w w1) w1 wc) wc wx)
   case first=>
    cases hch:DX c with
    | false=>
     have h1:VY S c=S:=by unfold VY;rw[hch];rfl
     have H1:=QQ h1;clear h1;go_wp2;go_meet;exact⟨_,f,by rw[H1.out];exact yz.out,fun _ h=>h,HS3.out⟩
    | true=>
     have h1:VY S c={S.save with now:=some (c,[])}:=by unfold VY;rw[hch];rfl
     have H1:=QQ h1;clear h1;have HSV:=QQ (Lj _ _ B S w3 ⟨f,yz.out.hf⟩ HI.out.pl);go_wp2_with fail
     refine HSV.out.mono ?_;rintro e w4 ⟨rfl,hv4⟩;obtain⟨F4,f4,JM,hsub,hsame⟩:=yz.out.call hv4;have hk4:∀i v,wc.cell? ⟨w.heap.size,i,none⟩=some v->w4.cell? ⟨w.heap.size,i,none⟩=some v:=fun i v h=>hsame.YZ _ _ (.inl hFC) (Qk hb3 _ _ h)
     have k0:=hk4 _ _ e0;have k1:=hk4 _ _ e1;have k2:=hk4 _ _ e2;have k3:=hk4 _ _ e3;have k4:=hk4 _ _ e4;have z47:=JM.hf.free 47;have y47:=JM.hf.cell 47;have hbl:=JM.hf.yH;have Jk:=JM.ng c;have hS5:=(((HS3.out.trans hsame).trans (Same.below (fun k hk=>JM.Sy k (hsub k hk)) (QC w4 (.cells #[.int .i64 c.a,.int .i64 c.b,.int .i64 c.c,.int .i64 c.d,.int .i64 c.e,.slice none 0 0] 219)))).trans (Same.setCell (i:=47) HA2.out.hf.m.nB (.pointer (some ⟨w4.heap.size,0,none⟩))));rw[World.setCell_alloc_past _ _ _ _ hbl]at Jk hS5;have Om:=QQ Jk;have F8:=QQ hS5;have HSU:=QQ hsub;clear hv4 JM hsame hk4 hsub Jk hS5;go_wp2;go_meet;exact⟨F4,_,by rw[H1.out];exact Om.out,HSU.out,F8.out⟩
   case rest=>
    obtain⟨F3,f3,Jk,hsub,hs5⟩:=hcut;obtain⟨W5,fq⟩:∃W5,W5=wc:=⟨_,rfl⟩;subst fq;have Jv:ZY W5 R rs 277:=QD.moved nZ.out.blk (hs5 R (.inr ⟨nZ.out.lo,nZ.out.blk.lt⟩));have bX:OT w1.heap.size W5 rs s:=by
     have:=nZ.out.res.moved (fun k h1 h2=>hs5 k (.inr ⟨h1,h2⟩));rw[hs]at this;exact this
    have hYl:XE F3 W5 (GY rs) s.Y:=by
     have:=(nZ.out.res.lists (F:=Fx (Fx F w w1) w1 wc) fun k hk=>.inr hk).imp fun v xs g=>(g.keep hs5.YZ).imp hsub
     rw[hs]at this;exact this
    have hlr:=bX.lr;have hyl:=V6 hlr;have hrg:=ML Jv hlr;obtain⟨oa,on,oc,hov⟩:=bX.o.form;have r0:=Jv.cell (i:=0) (by omega);have r1:=Jv.cell (i:=1) (by omega);have r29:=Jv.cell (i:=29) (by omega);have r30:=Jv.cell (i:=30) (by omega);have r31:=Jv.cell (i:=31) (by omega);rw[hov]at r0;rw[bX.p]at r1;rw[bX.f1]at r29;rw[bX.f2]at r30;rw[bX.m]at r31;have fH:K9 W5.drew B f3:=Jk.hf.m.blk;have ht5:W5.drew.there B 3 27:=fun j hj=>⟨by rw[fH.cell (by omega)];rfl,fH.free _⟩
    have QXh:=fH.regs (GY rs) hyl;have UF:=Jk.drew.stB (S':={VY S c with regs:=s.Y}) QXh (Xq _ _ _).2.1 (Xq _ _ _).2.2.1 (Xq _ _ _).2.2.2 (size_setCells _ _ _) (Xq _ _ _).1 rfl rfl rfl
     {Jk.drew.hf.d with lr:=bX.ly,regs:=by rw[Ry f3 _ hyl];exact hYl} ⟨rfl,rfl,rfl⟩
    have xX:=UF.store (S':={VY S c with regs:=s.Y,fk:=s.fk}) 30 (.int .i64 s.fk) {UF.hf.d with fk:=rfl};have VG:=xX.store (S':={VY S c with regs:=s.Y,fk:=s.fk,fa:=s.fa}) 31 (.int .i64 s.fa) {xX.hf.d with fa:=rfl};have VQ:=VG.store (S':={VY S c with regs:=s.Y,fk:=s.fk,fa:=s.fa,mode:=s.md}) 2 (.int .i64 s.md) {VG.hf.d with mode:=rfl};have y30:=UF.hf.cell 30;have z30:=UF.hf.free 30;have y31:=UF.hf.cell 31;have z31:=UF.hf.free 31;have y2:=UF.hf.cell 2;have z2:=UF.hf.free 2;have rH:R≠B:=fun e=>Jk.hf.m.nB (e▸hsub R (.inr ⟨nZ.out.lo,nZ.out.blk.lt⟩))
    have HA9:=QQ VQ;have hq0:RdS R rs oa on oc s.p s.fk s.fa s.md (GY rs) W5.drew:=⟨hrg,r0,r1,r29,r30,r31⟩;have hq1:=rdK (B:=B) rH hq0 (Xq (B:=B) (GY rs) W5.drew 3).1;have hq3:=rdK (B:=B) rH (rdK (B:=B) rH hq1 (fun k hk=>QP (W5.drew.setCells B 3 (GY rs)) ⟨B,30,none⟩ (.int .i64 s.fk) k hk)) (fun k hk=>QP _ ⟨B,31,none⟩ (.int .i64 s.fa) k hk);have hq4:=rdK (B:=B) rH hq3 (fun k hk=>QP _ ⟨B,2,none⟩ (.int .i64 s.md) k hk);have Q1:=QQ hq1;have Q3:=QQ hq3;have Q4:=QQ hq4;clear hq0 hq1 hq3 hq4;have hal:=Yb;have hz:(Tryz.prog.info? 36).map (·.size)=some (GY rs).length:=by rw[hyl];exact YU
    have ho:=bX.one;have HV5:=QQ bX;have hsl:XH F3 W5.drew (.slice oa on oc) s.O:=by
     have:=((nZ.out.res.o.xB.lt.imp (Q:=Fx (Fx F w w1) w1 wc) fun k hk=>.inr hk).keep hs5.YZ).imp hsub;rw[hs,hov]at this;exact this
    have hO4:on<=4096:=by have:=hsl.get.1;omega
    have QZ6:=hsl.keep (w':=(((W5.drew.setCells B 3 (GY rs)).setCell ⟨B,30,none⟩ (.int .i64 s.fk)).setCell ⟨B,31,none⟩ (.int .i64 s.fa)).setCell ⟨B,2,none⟩ (.int .i64 s.md))
     (Same.YZ (F:=F3) fun k hk=>by
      have hkB:k≠B:=fun e=>Jk.hf.m.nB (e▸hk)
      rw[QP _ _ _ _ hkB,QP _ _ _ _ hkB,QP _ _ _ _ hkB,(Xq _ _ _).1 k hkB])
    have HST:=QQ (Gj F3 _ B {VY S c with regs:=s.Y,fk:=s.fk,fa:=s.fa,mode:=s.md} oa on oc s.O s.p _ ⟨_,VQ.hf⟩ QZ6.sl hO4);clear Jk UF xX VG VQ fH QXh bX hYl hsl QZ6;go_upto_region 8 with fail
    go_region_held3 (fun w'=>w'.rangeAt R 2 (GY rs)/\w'.cell? ⟨R,0,none⟩=some (.slice oa on oc)/\w'.cell? ⟨R,1,none⟩=some (.int .i64 s.p)/\w'.cell? ⟨R,29,none⟩=some (.int .i64 s.fk)/\w'.cell? ⟨R,30,none⟩=some (.int .i64 s.fa)/\w'.cell? ⟨R,31,none⟩=some (.int .i64 s.md)) (first|exact⟨hrg,r0,r1,r29,r30,r31⟩|(with_reducible assumption)|(with_reducible exact Q1.out)|(with_reducible exact Q3.out)|(with_reducible exact Q4.out)) (fail)
    all_goals
     dsimp only[Exit.then];go_wp2_with fail
     refine HST.out.mono ?_;rintro e w7 ⟨rfl,hv7⟩;obtain⟨F7,f7,E9,-,-⟩:=HA9.out.call hv7;obtain⟨x2,v2⟩:=E9.hf.m.blk.at 2;obtain⟨x46,v46⟩:=E9.hf.m.blk.at 46;obtain⟨iM,v47⟩:=E9.hf.m.blk.at 47;have QXj:f7 2=.int .i64 s.md:=E9.hf.d.mode;rw[QXj]at x2;have CG:=E9.hf.m.now;have hst:SS.set {VY S c with regs:=s.Y,fk:=s.fk,fa:=s.fa,mode:=s.md} s.O s.p=gW (VY S c) s:=rfl;rw[hst]at E9 CG;have hno:(gW (VY S c) s).now=(VY S c).now:=rfl;have QQL:=QQ E9;have Yr:=QQ hno;clear E9 hv7 hst QXj;rw[hno]at CG;clear hno;by_cases hmd:s.md=0
     ·rw[hmd]at x2
      have HMD:=QQ hmd;clear hmd;cases qg:(VY S c).now with
      | none=>
       rw[qg]at CG;have CG:f7 47=.pointer none:=CG;rw[CG]at iM;have PK:=QQ qg;clear CG qg;go_wp2;go_ret;exact⟨by rw[HD.out];rfl,by rw[HD.out,PK.out,if_neg (fun e=>by cases e.2)];exact QQL.out.done⟩
      | some qq=>
       rw[qg]at CG;obtain⟨c7,Dv⟩:=qq;obtain⟨C7,tv7,h47,-⟩:=CG;rw[h47]at iM;have PK:=QQ qg;have nV:=QQ h47;clear h47 qg;go_wp2;go_ret;obtain⟨F9,QXr⟩:=QQL.out.yC (Yr.out.trans PK.out);rw[nV.out]at QXr;exact⟨by rw[HD.out];rfl,by rw[HD.out,if_pos ⟨HMD.out,by rw[PK.out];rfl⟩];exact QXr.done⟩
     ·have hmb:(s.md==0)=false:=by simpa using hmd
      have HMD:=QQ hmd;clear hmd CG;go_wp2;go_ret;exact⟨by rw[HD.out];rfl,by rw[HD.out,if_neg (fun e=>HMD.out e.1)];exact QQL.out.done⟩
  ·have HD:=QQ (tQ W0 S c hE)
   have HB:=QQ (Kv _ _ B S _ ⟨f,hA2.hf⟩ HN.out);have hE2:((S.kg W0 c).1 !=0)=true:=by simpa using hE
   clear hA2 hQ hE;generalize(S.kg W0 c).1=er at hE2 ⊢;go_wp2_with fail
   refine HB.out.mono ?_;rintro e w7 ⟨rfl,hv⟩;go_wp2;go_ret;obtain⟨F',f',hA3,-,-⟩:=HA2.out.call hv;exact⟨by rw[HD.out];rfl,by rw[HD.out];exact hA3.done⟩
theorem Cv(mode key b:Int)(hm:mode=1\/mode=2)(h:32<=key/\key≠127):X7 [] 0 mode key b=([key],1,0):=by
 unfold X7;rw[if_neg (by simp),if_neg (by simp;omega),if_pos h,if_neg (by simp),if_neg (by simp)];simp
theorem Cu(mode key b:Int)(hm:mode=1\/mode=2)(h:¬(32<=key/\key≠127))(h2:key≠8/\key≠127/\key≠21/\key≠23):X7 [] 0 mode key b=([],0,9):=by
 unfold X7;rw[if_neg (by simp),if_neg (by simp;omega),if_neg h,if_pos h2]
theorem vX(mode key b:Int)(hm:mode=1\/mode=2)(h:¬(32<=key/\key≠127))(h2:¬(key≠8/\key≠127/\key≠21/\key≠23)):X7 [] 0 mode key b=([],0,5):=by
 unfold X7;rw[if_neg (by simp),if_neg (by simp;omega),if_neg h,if_neg h2,if_pos rfl]
theorem SI(w:World)(x:Int):Ints (w.alloc (.cells #[.int .i64 x] 3)) (some ⟨w.heap.size,0,none⟩) [x]:=
 .inr ⟨_,_,rfl,fun i hi=>by
  obtain rfl:i=0:=by simpa using hi
  exact Xi w (.int .i64 x) 3⟩
theorem Cw(mode key:Int)(w:World)(hmode:mode=1\/mode=2):
  Calls Tryz.prog 136 #[.agg #[.slice none 0 0,.int .i64 0],.int .i64 mode,.int .i64 key] w (XR True (Y5 [] false 0) [] 0 mode key w):=by
 have hb:=QS w (.cells #[.slice none 0 0,.int .i64 0] 30) (.cells #[.slice none 0 0,.int .i64 0] 30);have hA:=QD.new (w.alloc (.cells #[.slice none 0 0,.int .i64 0] 30)) #[.slice none 0 0,.int .i64 0] 30;have hP:=(QD.new w #[.slice none 0 0,.int .i64 0] 30).alloc (.cells #[.slice none 0 0,.int .i64 0] 30);rw[QJ]at hA;have hnb:¬Ku [] 0 mode key:=fun h=>by have:=h.2.1;omega
 go_enter Tryz.func136,Tryz.ntmps136
 go_upto_region 4 with fail
 obtain⟨w2,hW2⟩:∃w2,w2=(w.alloc (.cells #[.slice none 0 0,.int .i64 0] 30)).alloc (.cells #[.slice none 0 0,.int .i64 0] 30):=⟨_,rfl⟩;rw[<-hW2]at hb hA hP ⊢;clear hW2;obtain⟨c0,c1,-,-⟩:=hP.two;obtain⟨d0,d1,f0,f1⟩:=hA.two;have hz:=hA.lt
 go_cut [34] (fun v wx=>v=.bool false/\wx=w2)
 case first=>
  rcases hmode with rfl|rfl
  all_goals
   exact Quy
 case rest=>
  obtain⟨rfl,rfl⟩:=hcut;go_upto_region 6 with fail
  go_quiet (fail)
  by_cases hpr:32<=key/\key≠127
  ·have HK:=QQ (Cv mode key 0 hmode hpr)
   obtain⟨k1,k2⟩:=hpr;have g1:(key !=127)=true:=by simpa using k2
   have AL:=SI (wc.drewN nq) key;have hres:=(hA.drewN nq).alloc (.cells #[.int .i64 key] 3);have hbw:=(below_drewN (QC wc (.cells #[.int .i64 key] 3)) nq);obtain⟨mb,hmb⟩:∃mb:Bool,(mode==2)=mb:=⟨_,rfl⟩;go_upto_region 25 with fail
   all_goals
    obtain⟨w3,hw3⟩:∃w3,w3=(wc.drewN nq).alloc (.cells #[.int .i64 key] 3):=⟨_,rfl⟩;have hB3:Below wc.heap.size wc w3:=by rw[hw3];exact(below_drewN (Qx _ _) nq).alloc (QU _) _
    rw[show(wc.drewN nq).heap.size=wc.heap.size from rfl]at AL;rw[<-hw3]at AL hres ⊢;have e0:=Qk hB3 _ _ c0;have hz3:w.heap.size+1<w3.heap.size:=hres.lt;have hbx:=QW hb hb.size hB3;clear hw3 c0 c1 d0 d1 f0 f1 hA hP hb;have En:=(Ib w3 26 (n0:=0) (n1:=1) (n2:=0) 0 1 0 (Ints.nil w3 none) AL (Ints.nil w3 none) rfl rfl rfl (by simp) (by simp) (by simp) (fun _=>rfl) (fun h=>by cases h) (fun _=>rfl)).drew;have hck:=QC w3 (.cells #[.slice none 0 0,.slice (some ⟨wc.heap.size,0,none⟩) 1 1,.slice none 0 0] 26);generalize wc.heap.size=G3 at En hck AL ⊢;have iw:IntKind.i64.wrap (1:Int)=1:=by rw[Ze];omega
    go_region_law (first|(go_simp;go_at_call 200;refine(Uu _ 3 _ _ _ _ _ En (by omega)).mono ?_;rintro e w8 ⟨v8,rfl,o8,ZU⟩;obtain⟨a8,n8,c8,rfl⟩:=o8.form;have Ei:QD w8 (w.heap.size+1) #[.slice none 0 0,.int .i64 0] 30:=QD.below ((hres.alloc _).drew) ZU (by show _<(w3.alloc _).heap.size;rw[QJ];omega);obtain⟨kd0,kd1,kf0,kf1⟩:=Ei.two))
    all_goals
     have YN:Below w3.heap.size w3 w8:=hck.drew.trans (ZU.mono (by show _<=(w3.alloc _).heap.size;rw[QJ];omega));rw[He]at o8;have hG:=((Ei.set 0 (.slice a8 n8 c8)).set 1 (.int .i64 1));obtain⟨y0,y1,-,-⟩:=QD.two hG;have o8:=o8.mono (base':=w3.heap.size+1) (by show w3.heap.size+1<=(w3.alloc _).heap.size;rw[QJ];omega);have o9:=(o8.setCell (a:=⟨w.heap.size+1,0,none⟩) (by show w.heap.size+1<_;omega) (.slice a8 n8 c8)).setCell (a:=⟨w.heap.size+1,1,none⟩) (by show w.heap.size+1<_;omega) (.int .i64 1);go_simp;go_wp2;refine QV (v:=.tuple #[.agg #[.slice a8 n8 c8,.int .i64 1],.int .i64 0]) (by simp[results,Tryz.results136,go_sem,y0,y1]) rfl ?_;refine XR.of (hcap:=o9.tY (by have:=hbx.size;omega)) HK.out (fun h=>absurd h hnb) (by simpa using o9.get.2.1) (by simpa using o9.get.1) (by have:=o9.get.1;simp at this;omega) ?_;exact Qv1
  ·by_cases h4:key≠8/\key≠127/\key≠21/\key≠23
   ·have HK:=QQ (Cu mode key 0 hmode hpr h4)
    obtain⟨k1,k2,k3,k4⟩:=h4;have g1:(key !=8)=true:=by simpa using k1
    have g2:(key !=127)=true:=by simpa using k2
    have g3:(key !=21)=true:=by simpa using k3
    have g4:(key !=23)=true:=by simpa using k4
    have k5:¬32<=key:=fun h=>hpr ⟨h,k2⟩
    clear hpr;go_wp2;obtain⟨y0,y1,-,-⟩:=QD.two (((hA.drewN nq).set 0 (.slice none 0 0)).set 1 (.int .i64 0));refine QV (v:=.tuple #[.agg #[.slice none 0 0,.int .i64 0],.int .i64 9]) (by simp[results,Tryz.results136,go_sem,y0,y1]) rfl ?_;exact Qvv
   ·have HK:=QQ (vX mode key 0 hmode hpr h4)
    have h5:key=8\/key=127\/key=21\/key=23:=by omega
    clear hpr h4;rcases h5 with rfl|rfl|rfl|rfl
    all_goals
     go_wp2;obtain⟨y0,y1,-,-⟩:=QD.two (((hA.drewN nq).set 0 (.slice none 0 0)).set 1 (.int .i64 0));refine QV (v:=.tuple #[.agg #[.slice none 0 0,.int .i64 0],.int .i64 5]) (by simp[results,Tryz.results136,go_sem,y0,y1]) rfl ?_;exact Qvv
theorem y8{l:List Int}{big:Bool}{q r:Int}(h:Y5 l big q r)(hq:0<q)(hql:q<=l.length):0<=r/\r<=q:=by
 obtain⟨k1,⟨h1,h2,h3⟩,h4⟩:=h;rcases h4 with⟨h5,rfl⟩|⟨h5,h6,h7,h8⟩
 ·omega
 ·refine⟨?_,by omega⟩
  rcases Zr r 0 with hr|hr
  ·have:=h7 (-1) (by omega) (by omega)
   rw[Js (.inl (by omega))]at this;have:=zi (l:=l) (big:=big) (k:=k1) h5 (by omega);omega
  ·exact hr
section
variable {xs:List Int} {q:Nat} {mode key b:Int} (h1:xs.length<=200) (h2:q<=xs.length) (hm:mode=1\/mode=2)
include h1 h2 hm
theorem Nb:X7 xs q mode key b=(if 32<=key/\key≠127 then
  if mode=2/\(q:Int)<xs.length then(xs.take q++[key]++xs.drop (q+1),(q:Int)+1,0)
  else if xs.length=200 then([],0,8)else(xs.take q++[key]++xs.drop q,(q:Int)+1,0)
 else if key≠8/\key≠127/\key≠21/\key≠23 then([],0,9)
 else if(q:Int)=0 then([],0,5)
 else if key=21 then(xs.drop q,0,0)
 else if key=23 then(xs.take b.toNat++xs.drop q,b,0)
 else if mode=2 then(xs,(q:Int)-1,0)
 else(xs.take (q-1)++xs.drop q,(q:Int)-1,0)):=by
 unfold X7;rw[if_neg (by omega),if_neg (by omega),Qs]
end
theorem vC(ad:Addr)(n c q:Nat)(xs:List Int)(mode key:Int)(w:World)(ha:Ints w (some ad) xs)(hn:xs.length=n)(hc:n<=c)(hc2:c<=9223372036854775807)(Si:n<=200)(hqn:q<=n)(hmode:mode=1\/mode=2):
  Calls Tryz.prog 136 #[.agg #[.slice (some ad) n c,.int .i64 (q:Int)],.int .i64 mode,.int .i64 key] w (XR True (Y5 xs false q) xs q mode key w):=by
 have HKH:=QQ (fun b=>Nb (xs:=xs) (q:=q) (mode:=mode) (key:=key) (b:=b) (by omega) (by omega) hmode);have hub:Ku xs q mode key->key=23:=fun h=>h.2.2.2.2
 have QZo:Ku xs q mode key->0<q:=fun h=>by have:=h.2.1;omega
 have HN:=QQ hn;clear hn;have hb:=QS w (.cells #[.slice (some ad) n c,.int .i64 (q:Int)] 30) (.cells #[.slice none 0 0,.int .i64 0] 30);have hA:=QD.new (w.alloc (.cells #[.slice (some ad) n c,.int .i64 (q:Int)] 30)) #[.slice none 0 0,.int .i64 0] 30;have hP:=(QD.new w #[.slice (some ad) n c,.int .i64 (q:Int)] 30).alloc (.cells #[.slice none 0 0,.int .i64 0] 30);rw[QJ]at hA;go_enter Tryz.func136,Tryz.ntmps136
 go_upto_region 4 with fail
 obtain⟨w2,hW2⟩:∃w2,w2=(w.alloc (.cells #[.slice (some ad) n c,.int .i64 (q:Int)] 30)).alloc (.cells #[.slice none 0 0,.int .i64 0] 30):=⟨_,rfl⟩;rw[<-hW2]at hb hA hP ⊢;clear hW2;have ha2:=ha.below hb;obtain⟨c0,c1,-,-⟩:=hP.two;obtain⟨d0,d1,f0,f1⟩:=hA.two;have hz:=hA.lt
 go_cut [34] (fun v wx=>v=.bool false/\wx=w2)
 case first=>
  rcases hmode with rfl|rfl
  all_goals
   go_wp2;go_meet;exact⟨by simp;omega,rfl⟩
 obtain⟨rfl,rfl⟩:=hcut;go_upto_region 6 with fail
 go_quiet (fail)
 go_upto_block 0 with fail
 have hb0:=below_drewN (Qx wc.heap.size wc) nq
 go_cut [9,10,11] (fun f t x wx=>∃(fn tn:Nat) (a3:Option Addr) (n3 c3:Nat),f=.int .i64 (fn:Int)/\t=.int .i64 (tn:Int)/\x=.slice a3 n3 c3/\Ready w wc wx (Y5 xs false q) (some ad) n c xs q mode key fn tn a3 n3 c3)
 case first=>
  by_cases hpr:32<=key/\key≠127
  ·have HK1:=QQ (fun b=>by rw[HKH.out b,if_pos hpr]:∀b,X7 xs q mode key b=if mode=2/\(q:Int)<xs.length then(xs.take q++[key]++xs.drop (q+1),(q:Int)+1,0)else if xs.length=200 then([],0,8)else(xs.take q++[key]++xs.drop q,(q:Int)+1,0))
   obtain⟨k1,k2⟩:=hpr;have g1:(key !=127)=true:=by simpa using k2
   have hnb:¬Ku xs q mode key:=fun h=>by have:=hub h;omega
   have AL:=SI (wc.drewN nq) key;by_cases hov:mode=2/\(q:Int)<(n:Int)
   ·have HK:=QQ (show X7 xs q mode key 0=(xs.take q++[key]++xs.drop (q+1),(q:Int)+((1:Nat):Int),0) by rw[HK1.out,if_pos (by rw[HN.out];exact hov)];rfl)
    obtain⟨m1,m2⟩:=hov;have g2:(mode==2)=true:=by simpa using m1
    clear hmode m1;go_wp2;go_meet;exact⟨q,q+1,_,1,1,rfl,by go_num,rfl,by omega,by omega,⟨[key],0,AL,rfl,HK.out,fun h=>absurd h hnb⟩,by omega,(fun h=>by cases h),(hP.drewN nq).alloc _,(hA.drewN nq).alloc _,hb0.alloc hb0.size _⟩
   ·by_cases h2:n=200
    ·have HK:=QQ (show X7 xs q mode key 0=([],0,8) by rw[HK1.out,if_neg (by rw[HN.out];exact hov),if_pos (by rw[HN.out];exact h2)])
     have g5:((n:Int)==200)=true:=by simp;omega
     have hb4:=hb0.alloc hb0.size (.cells #[.int .i64 key] 3);have JM:=(hA.drewN nq).alloc (.cells #[.int .i64 key] 3);obtain⟨e0,e1,e2,e3⟩:=JM.two;obtain⟨y0,y1,-,-⟩:=QD.two ((JM.set 0 (.slice none 0 0)).set 1 (.int .i64 0));have HBZ:=QQ ((QW hb hb.size hb4).setCell (p:=⟨w.heap.size+1,0,none⟩) (QK _) (.slice none 0 0) |>.setCell (p:=⟨w.heap.size+1,1,none⟩) (QK _) (.int .i64 0));have i3:(n:Int)=200:=by omega
     by_cases hm2:mode=2
     ·have g2:(mode==2)=true:=by simpa using hm2
      have g3:¬(q:Int)<(n:Int):=fun h=>hov ⟨hm2,h⟩
      have g4:¬q<n:=by omega
      exact Qus
     ·have g2:(mode==2)=false:=by simpa using hm2
      exact Qus
    ·have HK:=QQ (show X7 xs q mode key 0=(xs.take q++[key]++xs.drop q,(q:Int)+((1:Nat):Int),0) by rw[HK1.out,if_neg (by rw[HN.out];exact hov),if_neg (by rw[HN.out];exact h2)];rfl)
     have i2:((n:Int)==200)=false:=by simp;omega
     by_cases hm2:mode=2
     ·have g2:(mode==2)=true:=by simpa using hm2
      have g4:q=n:=by have:¬(q:Int)<(n:Int):=fun h=>hov ⟨hm2,h⟩;omega
      subst g4;exact Qu0
     ·have g2:(mode==2)=false:=by simpa using hm2
      exact Qu0
  ·have HK1:=QQ (fun b=>by rw[HKH.out b,if_neg hpr]:∀b,X7 xs q mode key b=if key≠8/\key≠127/\key≠21/\key≠23 then([],0,9)else if(q:Int)=0 then([],0,5)else if key=21 then(xs.drop q,0,0)else if key=23 then(xs.take b.toNat++xs.drop q,b,0)else if mode=2 then(xs,(q:Int)-1,0)else(xs.take (q-1)++xs.drop q,(q:Int)-1,0))
   obtain⟨y0,y1,-,-⟩:=QD.two (((hA.drewN nq).set 0 (.slice none 0 0)).set 1 (.int .i64 0));have hbz:=(below_drewN hb nq).setCell (p:=⟨w.heap.size+1,0,none⟩) (QK _) (.slice none 0 0) |>.setCell (p:=⟨w.heap.size+1,1,none⟩) (QK _) (.int .i64 0)
   by_cases h4:key≠8/\key≠127/\key≠21/\key≠23
   ·have HK:=QQ (show X7 xs q mode key 0=([],0,9) by rw[HK1.out,if_pos h4])
    have hnb:¬Ku xs q mode key:=fun h=>by have:=hub h;omega
    obtain⟨k1,k2,k3,k4⟩:=h4;have g1:(key !=8)=true:=by simpa using k1
    have g2:(key !=127)=true:=by simpa using k2
    have g3:(key !=21)=true:=by simpa using k3
    have g4:(key !=23)=true:=by simpa using k4
    have k5:¬32<=key:=fun h=>hpr ⟨h,k2⟩
    clear hpr;go_wp2;refine QV (v:=.tuple #[.agg #[.slice none 0 0,.int .i64 0],.int .i64 9]) (by simp[results,Tryz.results136,go_sem,y0,y1]) rfl ?_;exact XR.of HK.out (fun h=>absurd h hnb) (.inl rfl) rfl (by omega) hbz
   ·have h5:key=8\/key=127\/key=21\/key=23:=by omega
    by_cases hq0:q=0
    ·subst hq0
     have HK:=QQ (show X7 xs (0:Nat) mode key 0=([],0,5) by rw[HK1.out,if_neg h4];exact if_pos rfl);have hnb:¬Ku xs (0:Nat) mode key:=fun h=>by have:=QZo h;omega
     clear hpr h4;rcases h5 with rfl|rfl|rfl|rfl
     all_goals
      go_wp2;refine QV (v:=.tuple #[.agg #[.slice none 0 0,.int .i64 0],.int .i64 5]) (by simp[results,Tryz.results136,go_sem,y0,y1]) rfl ?_;exact XR.of HK.out (fun h=>absurd h hnb) (.inl rfl) rfl (by omega) hbz
    ·have hqi:¬(q:Int)=0:=by omega
     have Dj:=QQ (fun b=>by rw[HK1.out b,if_neg h4,if_neg hqi]:∀b,X7 xs q mode key b=if key=21 then(xs.drop q,0,0)else if key=23 then(xs.take b.toNat++xs.drop q,b,0)else if mode=2 then(xs,(q:Int)-1,0)else(xs.take (q-1)++xs.drop q,(q:Int)-1,0));by_cases h21:key=21
     ·have HK:=QQ (show X7 xs q mode key 0=(xs.take 0++[]++xs.drop q,((0:Nat):Int)+((0:Nat):Int),0) by rw[Dj.out,if_pos h21];simp)
      subst h21;have hnb:¬Ku xs q mode 21:=fun h=>by have:=hub h;omega
      clear hpr h4 h5;go_wp2;go_meet;exact⟨0,q,_,0,0,rfl,rfl,rfl,by omega,by omega,⟨[],0,.inl rfl,rfl,HK.out,fun h=>absurd h hnb⟩,by omega,fun _=>rfl,hP.drewN nq,hA.drewN nq,hb0⟩
     ·by_cases h23:key=23
      ·have HK3:=QQ (fun b=>by rw[Dj.out b,if_neg h21,if_pos h23]:∀b,X7 xs q mode key b=(xs.take b.toNat++xs.drop q,b,0))
       subst h23;clear hpr h4 h5 h21;go_wp2_with fail
       refine(qx (some ad) n c xs false (q:Int) _ (ha2.drewN nq) HN.out (by omega) (by omega) (by omega)).mono ?_;rintro e w5 ⟨r,rfl,hwb,hb5⟩;obtain⟨hr0,hr1⟩:=y8 hwb (by omega) (by rw[HN.out];omega);obtain⟨rn,rfl⟩:=Qg hr0;have HK:=QQ (show X7 xs q mode 23 (rn:Int)=(xs.take rn++[]++xs.drop q,(rn:Int)+((0:Nat):Int),0) by rw[HK3.out];simp);have HWB:=QQ hwb;clear hwb;have hb6:Below wc.heap.size wc w5:=QW hb0 hb0.size hb5;go_wp2;go_meet;exact⟨rn,q,_,0,0,rfl,rfl,rfl,by omega,by omega,⟨[],rn,.inl rfl,rfl,HK.out,fun _=>HWB.out⟩,by omega,fun _=>rfl,hP.below hb6 hP.lt,hA.below hb6 hA.lt,hb6⟩
      ·have h8:key=8\/key=127:=by omega
       have hnb:¬Ku xs q mode key:=fun h=>by have:=hub h;omega
       by_cases hm2:mode=2
       ·have HK:=QQ (show X7 xs q mode key 0=(xs,(q:Int)-1,0) by rw[Dj.out,if_neg h21,if_neg h23,if_pos hm2])
        have g2:(mode==2)=true:=by simpa using hm2
        clear hpr h4 h5 h21 h23 hmode hm2;rcases h8 with rfl|rfl
        all_goals
         go_wp2_with fail
         refine(Ql (some ad) n c xs _ (ha2.drewN nq) HN.out (by omega) (fun h=>by cases h)).mono ?_;rintro e w5 ⟨v5,rfl,o5,hb5⟩;obtain⟨a5,n5,c5,rfl⟩:=o5.form;have hb6:Below wc.heap.size wc w5:=QW hb0 hb0.size hb5;have Jk:=hA.below hb6 hA.lt;obtain⟨e0,e1,e2,e3⟩:=Jk.two;go_wp2;obtain⟨z0,z1,-,-⟩:=QD.two ((Jk.set 0 (.slice a5 n5 c5)).set 1 (.int .i64 ((q:Int)-1)));refine QV (v:=.tuple #[.agg #[.slice a5 n5 c5,.int .i64 ((q:Int)-1)],.int .i64 0]) (by simp[results,Tryz.results136,go_sem,z0,z1]) rfl ?_;have o6:=(o5.setCell (a:=⟨w.heap.size+1,0,none⟩) (show w.heap.size+1<wc.heap.size from hz) (.slice a5 n5 c5)).setCell (a:=⟨w.heap.size+1,1,none⟩) (show w.heap.size+1<wc.heap.size from hz) (.int .i64 ((q:Int)-1));exact XR.of (hcap:=o6.tY (show w.heap.size<=wc.heap.size from hb.size)) HK.out (fun h=>absurd h hnb) o6.get.2.1 o6.get.1 (by have:=o6.get.1;have:=HN.out;omega) ((QW hb hb.size hb6).setCell (p:=⟨w.heap.size+1,0,none⟩) (QK _) _ |>.setCell (p:=⟨w.heap.size+1,1,none⟩) (QK _) _)
       ·have HK:=QQ (show X7 xs q mode key 0=(xs.take (q-1)++[]++xs.drop q,((q-1:Nat):Int)+((0:Nat):Int),0) by rw[Dj.out,if_neg h21,if_neg h23,if_neg hm2];simp;omega)
        have g2:(mode==2)=false:=by simpa using hm2
        clear hpr h4 h5 h21 h23 hmode hm2;rcases h8 with rfl|rfl
        all_goals
         go_wp2;go_meet;exact⟨q-1,q,_,0,0,by go_num,rfl,rfl,by omega,by omega,⟨[],0,.inl rfl,rfl,HK.out,fun h=>absurd h hnb⟩,by omega,fun _=>rfl,hP.drewN nq,hA.drewN nq,hb0⟩
 case rest=>
  obtain⟨fn,tn,a3,n3,c3,rfl,rfl,rfl,hR⟩:=hcut;have HR:=QQ hR;have hbx:=QW hb hb.size HR.out.XW;have hac:=ha2.below HR.out.XW;clear c0 c1 d0 d1 f0 f1 hP hA hz hb ha ha2 hb0;obtain⟨c0,c1,-,-⟩:=hR.box.two;have hres:=hR.res;obtain⟨d0,d1,f0,f1⟩:=hres.two;have hz:=hres.lt;have hf:=hR.f1;have ht:=hR.t1;have yN:=hR.top;clear hR;go_upto_region 25 with fail
  obtain⟨ys,b,AL,hl3,hkey,hbk⟩:=HR.out.pieces;have H3:=QQ HR.out.nil;have HL3:=QQ hl3;have HK:=QQ hkey;have HBK:=QQ hbk;clear hl3 hkey hbk HR HKH hub QZo;have L1:=QQ (show(xs.take fn).length=fn by rw[QT,HN.out];omega);have L2:=QQ (show(xs.drop tn).length=n-tn by rw[Q7,HN.out]);have hfc:fn<=c:=by omega
  have i1:(fn:Int)<=(c:Int):=by omega
  obtain⟨aa,Mq⟩:∃aa,(if c=tn then some ad else some (ad.add tn))=aa:=⟨_,rfl⟩;have hI2:Ints wc aa (xs.drop tn):=by
   rw[<-Mq];split
   ·exact .inl (List.drop_eq_nil_of_le (by rw[HN.out];omega))
   ·exact hac.mE tn
  have hz2:aa=none->n-tn=0:=by
   rw[<-Mq];intro h;split at h<;>cases h
  have En:=(Ib wc 26 c c3 (c-tn) (hac.take fn) AL hI2 L1.out HL3.out L2.out (by omega) (by omega) (by omega) (fun h=>by cases h) H3.out hz2).drew;have hck:=QC wc (.cells #[.slice (some ad) fn c,.slice a3 n3 c3,.slice aa (n-tn) (c-tn)] 26);have HKL:=QQ (show((xs.take fn++ys++xs.drop tn).length)=fn+n3+(n-tn) by rw[QE,QE,L1.out,HL3.out,L2.out]);clear hI2 AL hac hz2;have iw:IntKind.i64.wrap ((fn:Int)+(n3:Int))=(fn:Int)+(n3:Int):=by rw[Ze];omega
  go_region_law (first|(go_simp;go_at_call 200;refine(Uu _ 3 _ _ _ _ _ En (by omega)).mono ?_;rintro e w8 ⟨v8,rfl,o8,ZU⟩;obtain⟨a8,n8,c8,rfl⟩:=o8.form;have Ei:QD w8 (w.heap.size+1) #[.slice none 0 0,.int .i64 0] 30:=QD.below ((hres.alloc _).drew) ZU (by show _<(wc.alloc _).heap.size;rw[QJ];omega);obtain⟨kd0,kd1,kf0,kf1⟩:=Ei.two))
  all_goals
   have YN:Below wc.heap.size wc w8:=hck.drew.trans (ZU.mono (by show _<=(wc.alloc _).heap.size;rw[QJ];omega));rw[He]at o8;have hG:=((Ei.set 0 (.slice a8 n8 c8)).set 1 (.int .i64 ((fn:Int)+(n3:Int))));obtain⟨y0,y1,-,-⟩:=QD.two hG;have o8:=o8.mono (base':=wc.heap.size+1) (by show wc.heap.size+1<=(wc.alloc _).heap.size;rw[QJ];omega);have o9:=(o8.setCell (a:=⟨w.heap.size+1,0,none⟩) (by show w.heap.size+1<_;omega) (.slice a8 n8 c8)).setCell (a:=⟨w.heap.size+1,1,none⟩) (by show w.heap.size+1<_;omega) (.int .i64 ((fn:Int)+(n3:Int)));go_simp;go_wp2;refine QV (v:=.tuple #[.agg #[.slice a8 n8 c8,.int .i64 ((fn:Int)+(n3:Int))],.int .i64 0]) (by simp[results,Tryz.results136,go_sem,y0,y1]) rfl ?_;refine XR.of (hcap:=o9.tY (by have:=hbx.size;omega)) HK.out HBK.out o9.get.2.1 o9.get.1 (by have:=o9.get.1;have:=HKL.out;omega) ?_;exact Qv1
end Go.Proofs.YtmdcencmiopmmaaGreat
