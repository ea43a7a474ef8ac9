/- LiftTopBounds: joined, no condition of its own. -/
import Derived.Test.YtmdcencmiopmmaaGreatTbJoinT
import Derived.Test.YtmdcencmiopmmaaGreatTbJoinJ20
import Derived.Test.YtmdcencmiopmmaaGreatTbJoinJ24
import Derived.Test.YtmdcencmiopmmaaGreatTbJoinJ31
import Derived.Test.YtmdcencmiopmmaaGreatTbJoinJ35
import Derived.Test.YtmdcencmiopmmaaGreatTbJoinJ37
import Derived.Test.YtmdcencmiopmmaaGreatTbJoinJ38
set_option linter.unusedVariables false
set_option linter.unusedSimpArgs false
set_option maxRecDepth 100000
set_option maxHeartbeats 12000000
namespace Go.Proofs.YtmdcencmiopmmaaGreat
open Go.RowKit
theorem PT(W0:World)(F G:Nat->Prop)(B K:Nat)(S:SS)(n:Int)(w:World)(h:Zw F G w B S)(hI:Qt K S)(hm:S.mode=0)(h0:0<=n)(h9:n<=999)(hK:K<=4398046511103)(hn:S.told.length+K+2<=4398046511103):
  Calls Tryz.prog 144 #[.pointer (some ⟨B,0,none⟩),.int .i64 n] w (VP F G w B (S.again W0 n) XU):=by
 obtain⟨f,hf⟩:=h;have hA:=At.begin hf;have c46:=hf.cell 46;have hl:=hf.d.last;cases hlast:S.last with
 | none=>
  rw[hlast]at hl;have hl:f 46=.pointer none:=hl;rw[hl]at c46;have HB:=QQ (Kv F G B S w ⟨f,hf⟩ (by omega));have he:S.again W0 n=S.Xa:=by unfold SS.again;rw[hlast]
  rw[he];clear hf hA hl hlast he hI hn;go_enter Tryz.func144,Tryz.ntmps144
  go_wp2_with fail
  refine HB.out.mono ?_;rintro e w2 ⟨rfl,hv⟩;exact Qvz
 | some pr=>
  obtain⟨c,ty⟩:=pr;rw[hlast]at hl;obtain⟨C,tv,QXg,hFC,hC,htv⟩:=hl;rw[QXg]at c46;obtain⟨ta,tn,tc,rfl⟩:=htv.form;have hcz:∃c',c'=(if 0<n then {c with a:=n}else c:C5):=⟨_,rfl⟩;obtain⟨c',hc'⟩:=hcz;have hla:=hI.la c ty hlast;have hok:Uq c':=by
   subst hc';split
   ·exact⟨h0,h9⟩
   ·exact hla.1
  have he:S.again W0 n=if(S.Ju W0 c').2=false\/(S.Ju W0 c').1.mode=0 then(S.Ju W0 c').1 else(ty.foldl SS.typed (S.Ju W0 c').1).typed 27:=by
   unfold SS.again;rw[hlast,hc']
  have hno:S.now=none:=hI.n0 (.inl hm);have hD:=hI.Ju (W:=W0) hm c' hok;have hT:=Tl.Ju W0 S c';obtain⟨k0,k1,k2,k3,k4,k5⟩:=QD.six hC;obtain⟨W3,hW3⟩:∃W3,W3=((w.alloc (.cells #[.int .i64 c.a,.int .i64 c.b,.int .i64 c.c,.int .i64 c.d,.int .i64 c.e,.slice ta tn tc] 219)).alloc (.cells #[.int .i64 c'.a,.int .i64 c'.b,.int .i64 c'.c,.int .i64 c'.d,.int .i64 c'.e] 87)):=⟨_,rfl⟩;have hb3:Below w.heap.size w W3:=by rw[hW3];exact QR.alloc (QR.alloc (Qx _ w))
  have hL1:QD W3 w.heap.size #[.int .i64 c.a,.int .i64 c.b,.int .i64 c.c,.int .i64 c.d,.int .i64 c.e,.slice ta tn tc] 219:=by rw[hW3];exact(QD.new w _ _).alloc _
  have hL2:QD W3 (w.heap.size+1) #[.int .i64 c'.a,.int .i64 c'.b,.int .i64 c'.c,.int .i64 c'.d,.int .i64 c'.e] 87:=by
   rw[hW3];have:=QD.new (w.alloc (.cells #[.int .i64 c.a,.int .i64 c.b,.int .i64 c.c,.int .i64 c.d,.int .i64 c.e,.slice ta tn tc] 219)) #[.int .i64 c'.a,.int .i64 c'.b,.int .i64 c'.c,.int .i64 c'.d,.int .i64 c'.e] 87
   rwa[QJ]at this
  have hA3:=hA.below hb3;have hz3:W3.heap.size=w.heap.size+1+1:=by rw[hW3,QJ,QJ]
  have aF:=QQ (Gv W0 _ _ B K S c' W3 ⟨f,hA3.hf⟩ hI hm hok (by omega));obtain⟨d0,d1,d2,d3,d4⟩:=QD.five hL2;have l5:W3.cell? ⟨w.heap.size,5,none⟩=some (.slice ta tn tc):=hL1.cell 5;have hF1:Fx F w W3 w.heap.size:=.inr ⟨QU _,by omega⟩;have QZs:=(htv.below hb3).imp (Q:=Fx F w W3) Fx.old;have HE:=QQ he;have yz:=QQ hA3;have HI:=QQ hI;have HTV:=QQ QZs;have HDD:=QQ hD;have HT:=QQ hT;have HLA:=QQ hla.2;have Yr:=QQ hno;have bV:=QQ hn;have HW3:=QQ hW3;clear hA hf hA3 he hD hT hla htv QZs hI hno hn hlast hL1 hL2 hb3 hz3 hC hFC QXg hm hW3;go_enter Tryz.func144,Tryz.ntmps144
  go_upto_if 24 with fail
  go_cut [25] (fun _ wx=>W3=wx)
  case first=>as_aux_lemma=>
   by_cases hn0:0<n
   ·obtain rfl:c'={c with a:=n}:=by rw[hc',if_pos hn0]
    clear d0 d1 d2 d3 d4 l5 hc';go_wp2;go_meet;exact HW3.out
   ·obtain rfl:c'=c:=by rw[hc',if_neg hn0]
    clear d0 d1 d2 d3 d4 l5 hc';go_wp2;go_meet;exact HW3.out
  case rest=>
   obtain rfl:=hcut;clear hc';go_wp2_with fail
   refine aF.out.mono ?_;rintro e w4 ⟨rfl,hv4⟩;obtain⟨F4,f4,JM,hsub,hsame⟩:=yz.out.call hv4;have l54:w4.cell? ⟨w.heap.size,5,none⟩=some (.slice ta tn tc):=hsame.YZ _ _ hF1 l5;have QZr:=(HTV.out.keep hsame.YZ).imp hsub;obtain⟨c2,-⟩:=JM.hf.m.blk.at 2;rw[JM.hf.d.mode]at c2;have QYC:=QQ QZr;have bz:=QQ JM;clear hv4 JM hsame QZr d0 d1 d2 d3 d4 l5 hsub;have hrr:∀b m,(S.Ju W0 c').2=b->(S.Ju W0 c').1.mode=m->True:=fun _ _ _ _=>trivial
   clear hrr;by_cases hfin:(S.Ju W0 c').2=false\/(S.Ju W0 c').1.mode=0
   ·as_aux_lemma=>
    have HF:=QQ hfin;rcases hfin with h2|h2
    ·rw[h2]
     clear h2;go_wp2;exact Qvi
    ·rw[h2]at c2
     clear h2;cases hb2:(S.Ju W0 c').2
     ·go_wp2
      exact Qvi
     ·go_wp2
      exact Qvi
   ·have h2:(S.Ju W0 c').2=true:=by
     cases h:(S.Ju W0 c').2
     ·exact absurd (.inl h) hfin
     ·rfl
    have hmm:((S.Ju W0 c').1.mode==0)=false:=by
     have:¬(S.Ju W0 c').1.mode=0:=fun e=>hfin (.inr e)
     simpa using this
    have HF:=QQ hfin;have hj:∀c7 Dv,(S.Ju W0 c').1.now=some (c7,Dv)->Dv.length<=0:=fun c7 Dv e=>by rw[HDD.out.2.2 h2 c7 Dv e Yr.out];exact QU _
    have HJ:=QQ hj;have HTT:=QQ (show∀j,j<=ty.length->((ty.take j).foldl SS.typed (S.Ju W0 c').1).told.length<=S.told.length+1+j from fun j hj2=>by
     obtain⟨m1,e1,e2,-⟩:=HT.out.told;obtain⟨m2,g1,g2,-⟩:=(Tl.Uj (ty.take j) (S.Ju W0 c').1).told;rw[g1,e1,QE,QE];rw[QT]at g2
     omega)
    have HII:=QQ (show∀j,j<=ty.length->Qt K ((ty.take j).foldl SS.typed (S.Ju W0 c').1)from fun j hj2=>
     Qt.Uj (ty.take j) _ 0 HDD.out.1 HJ.out (by have:=HLA.out;rw[QT];omega))
    have hset:(S.Ju W0 c').1.mode=(S.Ju W0 c').1.mode:=rfl;rw[h2];clear hfin hj h2 hset;go_wp2;obtain⟨g1,g2,g3,g4,g5⟩:=QYC.out.get;have HG:=QQ g1;have htn:tn<=4398046511103:=by have:=HLA.out;omega
    clear g1 g2 g3 g4 g5
    go_loopw [41] (fun x wr=>∃(j:Nat) (F':Nat->Prop) (f':Nat->Value),x=.int .i64 (j:Int)/\j<=tn/\At F G w F' wr B f' ((ty.take j).foldl SS.typed (S.Ju W0 c').1)/\XH F' wr (.slice ta tn tc) ty) (fun x _=>tn-(intOf x).toNat)
    case atStart=>exact⟨0,F4,f4,rfl,by omega,bz.out,QYC.out⟩
    case round=>
     obtain⟨j,F5,f5,rfl,hj,Jk,hs5⟩:=hrel;by_cases hlt:j<tn
     ·as_aux_lemma=>
      have hi0:(0:Int)<=(j:Int):=by omega
      have hin:(j:Int)<(tn:Int):=by omega
      have hjt:j<ty.length:=by rw[HG.out];exact hlt
      obtain⟨b1,o1,rfl,hcc⟩:=Ints.at hs5.get.2.2.2.1 hjt;have cv:=hcc j hjt;have hi:=HII.out j (by omega);have ht:=HTT.out j (by omega);have hnw:∀c7 Dv,((ty.take j).foldl SS.typed (S.Ju W0 c').1).now=some (c7,Dv)->Dv.length<=4398046511103:=fun c7 Dv e=>by have:=(hi.nw c7 Dv e).2;omega
      have HTY:=QQ (jQ F5 _ B _ (ix ty j) wr ⟨f5,Jk.hf⟩ hi.tl hi.p0 (by have:=hi.p1;have:=hi.tl;omega) (by have:=bV.out;have:=HLA.out;omega) hnw);have Om:=QQ Jk;have F8:=QQ hs5;clear Jk hs5 hcc hi ht hnw;go_wp2_with (go_at_call 88;go_loud (refine(HTY.out).mono ?_;rintro e w6 ⟨rfl,hv6⟩;have HV6:=QQ hv6;clear hv6))
      obtain⟨F6,f6,UF,MX,CF⟩:=Om.out.call HV6.out;refine⟨⟨j+1,F6,f6,by go_num,by omega,?_,(F8.out.keep CF.YZ).imp MX⟩,by simp[intOf];omega⟩;rw[Qo (by rw[HG.out];exact hlt),List.foldl_append,<-Xt (by rw[HG.out];exact hlt)];exact UF
     ·as_aux_lemma=>
      obtain rfl:j=tn:=by omega
      rw[Q5 (by rw[HG.out];exact QU _)]at Jk;have hi:=HII.out ty.length (QU _);have ht:=HTT.out ty.length (QU _);rw[Q5 (QU _)]at hi ht;have hnw:∀c7 Dv,(ty.foldl SS.typed (S.Ju W0 c').1).now=some (c7,Dv)->Dv.length<=4398046511103:=fun c7 Dv e=>by have:=(hi.nw c7 Dv e).2;omega
      have HTY:=QQ (jQ F5 _ B _ 27 wr ⟨f5,Jk.hf⟩ hi.tl hi.p0 (by have:=hi.p1;have:=hi.tl;omega) (by have:=bV.out;have:=HLA.out;omega) hnw);have Om:=QQ Jk;clear Jk hs5 hi ht hnw hlt;go_wp2_with fail
      refine HTY.out.mono ?_;rintro e w6 ⟨rfl,hv6⟩;go_wp2
      go_end0
      obtain⟨F6,f6,UF,-,-⟩:=Om.out.call hv6;exact⟨rfl,by rw[HE.out,if_neg HF.out];exact UF.done⟩
theorem Mf(F G:Nat->Prop)(B:Nat)(S:SS)(w:World)(h:Zw F G w B S)(hl:S.text.length<=200)(hfl:S.first.length<=200)(hp:S.past.length<=30)(hn:S.told.length<=4398046511103):
  Calls Tryz.prog 143 #[.pointer (some ⟨B,0,none⟩)] w (VP F G w B S.Yp XU):=by
 obtain⟨f,hf⟩:=h;have hA:=At.begin hf;obtain⟨p,hpt⟩:=hf.d.text.ptr;obtain⟨q,hqt⟩:=hf.d.first.ptr
 have c0:=hf.cell 0;have c45:=hf.cell 45;rw[hpt]at c0;rw[hqt]at c45;have htx:=hf.d.text;have hfx:=hf.d.first
 rw[hpt]at htx;rw[hqt]at hfx;have H1:=QQ (fun(w':World) (hb:Below w.heap.size w w')=>Ul.list (htx.keep (G:=F) (ZZ.below F hb) (fun _ h=>h)) (show S.text.length<=10000 by omega));have H2:=QQ (fun(w':World) (hb:Below w.heap.size w w')=>Ul.list (hfx.keep (G:=F) (ZZ.below F hb) (fun _ h=>h)) (show S.first.length<=10000 by omega));have HA:=QQ hA;have bV:=QQ hn;have HP:=QQ hp;have HL:=QQ hl;have HFL:=QQ hfl;clear hf hA hpt hqt htx hfx hn hp hl hfl;go_enter Tryz.func143,Tryz.ntmps143
 go_upto_region 0 with fail
 go_cut [13] (fun v wx=>v=.bool (decide (S.text=S.first))/\Below w.heap.size w wx)
 case first=>
  go_region_law (first
   | (go_simp;go_at_call 79;(with_reducible show Calls _ _ #[.agg #[.pointer p]] _ _);refine(H1.out _ ?_).mono ?_;(·first|exact Uw|exact QR.drew (Qx _ w));rintro e w5 ⟨v5,rfl,o5,hb5⟩;obtain⟨a5,n5,k5,rfl⟩:=o5.form;have s5:=o5.sl;have Yu:Below w.heap.size w w5:=(by first|exact QR.call hb5 Uw|exact QR.call hb5 (QR.drew (Qx _ w)));have x0:=Qk Yu _ _ c0;have x45:=Qk Yu _ _ c45;(try have t6:=s6.below hb5))
   | (go_simp;go_at_call 79;(with_reducible show Calls _ _ #[.agg #[.pointer q]] _ _);refine(H2.out _ ?_).mono ?_;(·first|exact Yu|exact QR.drew (Qx _ w));rintro e w6 ⟨v6,rfl,o6,hb6⟩;obtain⟨a6,n6,k6,rfl⟩:=o6.form;have s6:=o6.sl;have Uw:Below w.heap.size w w6:=(by first|exact QR.call hb6 Yu|exact QR.call hb6 (QR.drew (Qx _ w)));have y0:=Qk Uw _ _ c0;have y45:=Qk Uw _ _ c45;(try have t5:=s5.below hb6))
   | (go_simp;go_at_call 23;refine(qA _ _ _ _ _ _ S.text S.first _ ?_ ?_ ?_ ?_ ?_).mono ?_;(·first|exact t5.get.2.2.2.1|exact s5.get.2.2.2.1);(·first|exact t6.get.2.2.2.1|exact s6.get.2.2.2.1);(·exact s5.get.1);(·exact s6.get.1);(·have:=s5.get.2.1;have:=s5.get.2.2.1;omega);rintro e w7 ⟨rfl,nq,rfl⟩))
  all_goals
   go_wp2;go_meet;refine⟨rfl,?_⟩;refine below_drewN ?_ _;first|exact Uw|exact Yu
 case rest=>
  obtain⟨rfl,hb2⟩:=hcut;have hA2:=HA.out.Xw hb2;have HA2:=QQ hA2;by_cases heq:S.text=S.first
  ·rw[decide_eq_true heq]
   have HB:=QQ (Kv _ _ B S _ ⟨f,hA2.hf⟩ bV.out);have he:S.Yp=S.Xa:=by unfold SS.Yp;rw[if_pos heq]
   have HE:=QQ he;clear hA2 heq he hb2;go_wp2_with fail
   refine HB.out.mono ?_;rintro e w7 ⟨rfl,hv⟩;go_wp2
   go_end0
   obtain⟨F',f',hA3,-,-⟩:=HA2.out.call hv;exact⟨rfl,by rw[HE.out];exact hA3.done⟩
  ·rw[decide_eq_false heq]
   have HB:=QQ (Lj _ _ B S _ ⟨f,hA2.hf⟩ HP.out);have he:S.Yp={S.save with text:=S.first,pos:=0}:=by unfold SS.Yp;rw[if_neg heq]
   have HE:=QQ he;clear hA2 heq he hb2;go_wp2_with fail
   refine HB.out.mono ?_;rintro e w7 ⟨rfl,hv⟩;obtain⟨F',f',hA3,-,-⟩:=HA2.out.call hv;obtain⟨q3,hq3⟩:=hA3.hf.d.first.ptr
   obtain⟨x0,z0⟩:=hA3.hf.m.blk.at 0;obtain⟨x1,z1⟩:=hA3.hf.m.blk.at 1;obtain⟨x45,z45⟩:=hA3.hf.m.blk.at 45;rw[hq3]at x45;have yz:=QQ hA3;have HQ:=QQ hq3;clear hA3 hv hq3;go_wp2
   go_end0
   have hA3:=yz.out;have hfx:=hA3.hf.d.first
   rw[HQ.out]at hfx;have JM:=hA3.store (S':={S.save with text:=S.first}) 0 (.pointer q3) {hA3.hf.d with text:=hfx};exact⟨rfl,by rw[HE.out];exact(JM.store (S':={S.save with text:=S.first,pos:=0}) 1 (.int .i64 0) {JM.hf.d with pos:=rfl}).done⟩
theorem bN(F G:Nat->Prop)(B:Nat)(S:SS)(w:World)(h:Zw F G w B S)(hp:S.past.length<=30)(hn:S.told.length<=4398046511103):
  Calls Tryz.prog 142 #[.pointer (some ⟨B,0,none⟩)] w (VP F G w B S.back XU):=by
 obtain⟨f,hf⟩:=h;have hA:=At.begin hf;obtain⟨p,hpt⟩:=hf.d.text.ptr;obtain⟨us,hps,hsn⟩:=hf.d.past.get;have kQ:=hps;obtain⟨a,n,c,hv,-⟩:=hps;rw[hv]at kQ;obtain⟨g1,g2,g3,g4,g5⟩:=kQ.get;have c0:=hf.cell 0;have c1:=hf.cell 1;have mI:=hf.cell 43;have c44:=hf.cell 44;rw[hpt]at c0;rw[hf.d.pos]at c1;rw[hv]at mI;rw[hf.d.fut]at c44;have HD:=QQ (fun(w':World) (hb:Below w.heap.size w w')=>M4 a n c us p S.pos w' (g4.Xu hb) hsn.oks g1 (by rw[<-g1,hsn.1];exact hp) g5);have HA:=QQ hA;have HSN:=QQ hsn;have HPT:=QQ hpt;have HN:=QQ (g1.symm.trans hsn.1);have hBl:=hf.yH;have bV:=QQ hn;have HP:=QQ g1;clear hf hA kQ hsn hv g1 g2 g3 g4 g5 hpt hp hn;go_enter Tryz.func142,Tryz.ntmps142
 go_upto_region 0 with fail
 go_cut [2,3,4] (fun v2 v3 v4 wx=>∃H K a1 n1 c1 a2 n2 c2 p' q',v2=.pointer (some ⟨H,0,none⟩)/\v3=.pointer (some ⟨K,0,none⟩)/\v4=.bool (decide (0<us.length))/\w.heap.size<=H/\w.heap.size<=K/\wx.cell? ⟨H,0,none⟩=some (.slice a1 n1 c1)/\wx.cell? ⟨H,1,none⟩=some (.slice a2 n2 c2)/\wx.cell? ⟨K,0,none⟩=some (.pointer p')/\wx.cell? ⟨K,1,none⟩=some (.int .i64 q')/\(0<us.length->xW (fun k=>w.heap.size<=k) wx (.slice a1 n1 c1) us.dropLast/\WO us (us.length-1)=⟨.pointer p',.int .i64 q'⟩)/\Below w.heap.size w wx)
 case first=>
  go_region_law (first|(go_simp;go_at_call 205;refine(HD.out _ ?_).mono ?_;(·repeat' (first|(with_reducible exact Qx _ _)|(with_reducible refine QR.alloc ?_)|(with_reducible refine QR.drew ?_)));rintro e w5 ⟨a1,n1,c1,a2,n2,c2,p',q',rfl,hpq,hb5⟩;have hs5:w.heap.size<=w5.heap.size:=(by have:=hb5.size;simp at this;omega);(first|(refine qm (P:=QD w5 (w.heap.size) #[.slice none 0 0,.slice none 0 0] 109) ?_ ?_;(·repeat' (first|((with_reducible refine X4 ?_);(first|rfl|(simp;done)))|(with_reducible refine QD.Xu hb5 ?_)|(with_reducible refine QD.YT ?_)|(with_reducible refine QD.XD ?_)));intro hH2;have hlt2:=hH2.lt;obtain⟨h20,h21,k20,k21⟩:=hH2.two)|(refine qm (P:=QD w5 (w.heap.size+1) #[.slice none 0 0,.slice none 0 0] 109) ?_ ?_;(·repeat' (first|((with_reducible refine X4 ?_);(first|rfl|(simp;done)))|(with_reducible refine QD.Xu hb5 ?_)|(with_reducible refine QD.YT ?_)|(with_reducible refine QD.XD ?_)));intro hH2;have hlt2:=hH2.lt;obtain⟨h20,h21,k20,k21⟩:=hH2.two)|skip);(first|(refine qm (P:=QD w5 (w.heap.size) #[.pointer none,.int .i64 0] 106) ?_ ?_;(·repeat' (first|((with_reducible refine X4 ?_);(first|rfl|(simp;done)))|(with_reducible refine QD.Xu hb5 ?_)|(with_reducible refine QD.YT ?_)|(with_reducible refine QD.XD ?_)));intro hH3;have hlt3:=hH3.lt;obtain⟨h30,h31,lM,lL⟩:=hH3.two)|(refine qm (P:=QD w5 (w.heap.size+1) #[.pointer none,.int .i64 0] 106) ?_ ?_;(·repeat' (first|((with_reducible refine X4 ?_);(first|rfl|(simp;done)))|(with_reducible refine QD.Xu hb5 ?_)|(with_reducible refine QD.YT ?_)|(with_reducible refine QD.XD ?_)));intro hH3;have hlt3:=hH3.lt;obtain⟨h30,h31,lM,lL⟩:=hH3.two)|skip);have Yu:Below w.heap.size w w5:=(by refine QR.call hb5 ?_;repeat' (first|(with_reducible exact Qx _ _)|(with_reducible refine QR.alloc ?_)|(with_reducible refine QR.drew ?_)))))
  all_goals
   go_wp2;go_meet;refine⟨_,_,a1,n1,c1,a2,n2,c2,p',q',rfl,rfl,rfl,by omega,by omega,?_,?_,?_,?_,fun h=>⟨(hpq h).1.Lm ?_ ?_,(hpq h).2⟩,?_⟩
   ·go_simp
   ·go_simp
   ·go_simp
   ·go_simp
   ·repeat' (first|(with_reducible exact ZZ.refl _ _)|(with_reducible refine ZZ.XD ?_)|(with_reducible refine ZZ.YT ?_)|((with_reducible refine ZZ.jE ?_ ?_);(intro hk;simp at hk;omega)))
   ·intro k hk
    simp at hk;omega
   ·repeat' (first|(with_reducible exact Yu)|(with_reducible refine QR.alloc ?_)|(with_reducible refine QR.drew ?_)|((with_reducible refine QR.set ?_ ?_);(first|omega|(simp;omega))))
 case rest=>
  obtain⟨H,K,a1,n1,c1',a2,n2,c2,p',q',rfl,rfl,rfl,hH,hK,x0,x1,x2,x3,hpq,hb2⟩:=hcut;obtain⟨wz,rE⟩:∃W5,W5=wc:=⟨_,rfl⟩;subst rE;have hA2:=HA.out.below hb2;have HA2:=QQ hA2;have HPQ:=QQ hpq;by_cases hz:us.length=0
  ·have hd:decide (0<us.length)=false:=decide_eq_false (by omega)
   rw[hd];have HB:=QQ (Kv (Fx F w wz) (Gx G w wz) B S wz ⟨f,hA2.hf⟩ bV.out);clear hA2 hpq;go_wp2_with fail
   refine HB.out.mono ?_;rintro e w7 ⟨rfl,hv⟩;go_wp2
   go_end0
   have he:S.back=S.Xa:=by
    unfold SS.back;rw[if_pos (by rw[<-HSN.out.1];exact hz)]
   obtain⟨F',f',hA3,-,-⟩:=HA2.out.call hv;exact⟨rfl,by rw[he];exact hA3.done⟩
  ·have hd:decide (0<us.length)=true:=decide_eq_true (by omega)
   rw[hd];have y0:=hA2.hf.cell 0;have y1:=hA2.hf.cell 1;have y43:=hA2.hf.cell 43;have y44:=hA2.hf.cell 44;have k0:=hA2.hf.free 0;have k1:=hA2.hf.free 1;have k43:=hA2.hf.free 43;have k44:=hA2.hf.free 44;have hHB:H≠B:=by omega
   have hKB:K≠B:=by omega
   clear hA2 hpq;go_upto_region 3 with fail
   go_region
   go_wp2
   go_end0
   have hsl:=HSN.out.1;have hl:S.past.length-1<S.past.length:=by omega
   have hpl:(S.past.getLast?).getD ([],0)=S.past[S.past.length-1]:=by rw[List.getLast?_eq_getElem?,Qr hl];rfl
   obtain⟨hps,hq⟩:=HPQ.out (by omega);obtain⟨t1,t2⟩:=HSN.out.2 (S.past.length-1) hl;rw[hsl]at hq;rw[hq]at t1 t2;dsimp only at t1 t2;simp only[Value.int.injEq,true_and]at t2;have he:S.back={S with text:=S.past[S.past.length-1].1,pos:=q',past:=S.past.dropLast}:=by
    unfold SS.back;rw[if_neg (by omega),hpl,t2]
   have hA2:=HA2.out;have hA3:=hA2.store (S':={S with past:=S.past.dropLast}) 43 (.slice a1 n1 c1') {hA2.hf.d with past:=((HSN.out.dropLast).keep (ZZ.below _ hb2) Fx.old).snp (hps.lt.imp fun k hk=>Fx.new k hk)};have JM:=hA3.store (S':={S with past:=S.past.dropLast}) 44 (.slice none 0 0) {hA3.hf.d with fut:=rfl};have Jk:=JM.store (S':={S with text:=S.past[S.past.length-1].1,past:=S.past.dropLast}) 0 (.pointer p') {JM.hf.d with text:=((t1.keep (ZZ.below _ hb2) Fx.old).keep (ZZ.setCell (a:=⟨B,43,none⟩) hA2.hf.m.nB _) (fun _ h=>h)).keep (ZZ.setCell (a:=⟨B,44,none⟩) hA2.hf.m.nB _) (fun _ h=>h)};have UF:=Jk.store (S':={S with text:=S.past[S.past.length-1].1,pos:=q',past:=S.past.dropLast}) 1 (.int .i64 q') {Jk.hf.d with pos:=rfl};exact⟨rfl,by rw[he];exact UF.drew.done⟩
theorem UO.form{F:Nat->Prop}{w:World}{lv:Value}{most QM:Int}{sv pv:Value}{older:Bool}{h:Hi}(r:UO F w lv most QM sv pv older h):∃la ln lc sa sn sc pa pn pc,lv=.slice la ln lc/\sv=.slice sa sn sc/\pv=.slice pa pn pc:=by
 obtain⟨sa,sn,sc,h1⟩:=r.Qm.form;obtain⟨pa,pn,pc,h2⟩:=r.pat.form;obtain⟨vs,h3,-⟩:=r.ls;obtain⟨a,n,c,e,-⟩:=h3;exact⟨a,n,c,sa,sn,sc,pa,pn,pc,e,h1,h2⟩
theorem At.xB{F0 G0 F:Nat->Prop}{w0 w w':World}{B:Nat}{f:Nat->Value}{S:SS}{v:Value}{xs:List Int}(h:At F0 G0 w0 F w B f S)(o:Own 3 w.heap.size w' v xs):XH (Fx F w w') w' v xs:=o.xB.lt.imp fun k hk=>Fx.new k hk
theorem UO.fx{F:Nat->Prop}{w w':World}{lv:Value}{most QM:Int}{sv pv:Value}{older:Bool}{h:Hi}(r:UO (fun k=>w.heap.size<=k) w' lv most QM sv pv older h):UO (Fx F w w') w' lv most QM sv pv older h:=r.lt.imp fun k hk=>Fx.new k hk
theorem Mg(F G:Nat->Prop)(B:Nat)(S:SS)(w:World)(h:Zw F G w B S)(hl:S.text.length<=200)(hh:qK S.Qh=0)(hn:S.told.length<=4398046511103):
  Calls Tryz.prog 85 #[.pointer (some ⟨B,0,none⟩)] w (VP F G w B S.accept XU):=by
 obtain⟨f,hf⟩:=h;have hA:=At.begin hf;obtain⟨p,hp⟩:=hf.d.text.ptr;obtain⟨c0,-⟩:=hf.m.blk.at 0;rw[hp]at c0;have htx:=hf.d.text;rw[hp]at htx;have HT:=QQ (Ul.list htx (by omega));have HA:=QQ hA;have HN:=QQ hn;have HL:=QQ hl;have HH:=QQ hh;clear hf hA hp htx hn hl hh;go_enter Tryz.func85,Tryz.ntmps85
 go_wp2_with fail
 refine HT.out.mono ?_;rintro e w2 ⟨v,rfl,o2,hb2⟩;obtain⟨a2,n2,c2,rfl⟩:=o2.form;have hA2:=HA.out.below hb2;have hs2:=HA.out.xB o2;obtain⟨g1,g2,g3,g4,g5⟩:=hs2.get;have hh2:=hA2.hf.d.Qh;have HD:=QQ (Sn _ _ _ _ _ _ S.Qh a2 n2 c2 S.text w2 hh2.hir g4 g1 g5);obtain⟨la,ln,lc,sa,sn,sc,pa,pn,pc,e1,e2,e3⟩:=hh2.form;obtain⟨c37,-⟩:=hA2.hf.m.blk.at 37;obtain⟨c38,-⟩:=hA2.hf.m.blk.at 38;obtain⟨c39,-⟩:=hA2.hf.m.blk.at 39;obtain⟨c40,-⟩:=hA2.hf.m.blk.at 40;obtain⟨c41,-⟩:=hA2.hf.m.blk.at 41;obtain⟨c42,-⟩:=hA2.hf.m.blk.at 42;rw[e1]at c37;rw[hA2.hf.d.MK]at c38;rw[hA2.hf.d.AA]at c39;rw[e2]at c40;rw[e3]at c41;rw[hA2.hf.d.holder]at c42;rw[e1,e2,e3]at HD;unfold Zc at HD;have HA2:=QQ hA2;have HS2:=QQ hs2;have HG1:=QQ (show n2<=4096 by have:=HL.out;omega);clear hA2 hs2 hh2 g1 g2 g3 g4 g5 e1 e2 e3 o2 hb2;go_wp2_with fail
 refine HD.out.mono ?_;rintro e w3 ⟨h3,E3,hR,lv,sv,pv,rfl,hP,hb3⟩;obtain⟨rfl,rfl⟩:h3=VV S.Qh S.text/\E3=0:=by
  rcases hR with⟨q,_⟩|⟨_,q,_⟩|⟨_,_,q1,q2⟩
  ·exact absurd HH.out q
  ·have:=HL.out;omega
  ·exact⟨q1,q2⟩
 clear hR;obtain⟨la3,ln3,lc3,sa3,sn3,sc3,pa3,pn3,pc3,rfl,rfl,rfl⟩:=hP.form;have hA3:=HA2.out.below hb3;obtain⟨f4,JM,-⟩:=hA3.LC (hh:=VV S.Qh S.text) (UO.fx hP);have nB:=hA3.hf.m.nB;have hl4:=(((((((HS2.out.below hb3).imp (Fx.old (w:=w2) (w':=w3))).J6 (i:=37) (u:=.slice la3 ln3 lc3) nB).J6 (i:=38) (u:=.int .i64 (VV S.Qh S.text).most) nB).J6 (i:=39) (u:=.int .i64 (VV S.Qh S.text).QM) nB).J6 (i:=40) (u:=.slice sa3 sn3 sc3) nB).J6 (i:=41) (u:=.slice pa3 pn3 pc3) nB).J6 (i:=42) (u:=.bool (VV S.Qh S.text).older) nB;have HTL:=QQ (yu _ _ B {S with Qh:=VV S.Qh S.text} 2 _ S.text _ ⟨f4,JM.hf⟩ hl4 HN.out);obtain⟨GJ,z37⟩:=hA3.hf.m.blk.at 37;obtain⟨x38,z38⟩:=hA3.hf.m.blk.at 38;obtain⟨x39,z39⟩:=hA3.hf.m.blk.at 39;obtain⟨LJ,z40⟩:=hA3.hf.m.blk.at 40;obtain⟨MN,z41⟩:=hA3.hf.m.blk.at 41;obtain⟨MM,z42⟩:=hA3.hf.m.blk.at 42;have bz:=QQ JM;clear hA3 JM nB hl4 hP hb3 c0 c37 c38 c39 c40 c41 c42;unfold Zc;go_wp2_with fail
 refine HTL.out.mono ?_;rintro e w5 ⟨rfl,hv⟩;obtain⟨F5,f5,Jk,-,-⟩:=bz.out.call hv;have UF:=Jk.LB;have HBG:=QQ (jX _ _ B _ none 0 0 [] 1 _ ⟨_,UF.hf⟩ (Sl.nil _) (by omega) (.inr rfl));obtain⟨iM,z47⟩:=Jk.hf.m.blk.at 47;have HA6:=QQ UF;clear Jk UF hv;go_wp2_with fail
 refine HBG.out.mono ?_;rintro e w7 ⟨rfl,hv⟩;obtain⟨F7,f7,xX,-,-⟩:=HA6.out.call hv;have HA7:=QQ xX;clear xX hv;go_wp2
 go_end0
 exact⟨rfl,HA7.out.done⟩
theorem Vx.VA{h:Hi}{xs:List Int}{n way:Int}{h':Hi}{l:List Int}{E:Int}(r:Vx h xs n way h' l E):VA h xs n way=(h',l,E):=by
 unfold Go.Proofs.YtmdcencmiopmmaaGreat.VA;rcases r with⟨h1,rfl,rfl,rfl⟩|⟨h1,h2,rfl,rfl,rfl⟩|⟨h1,k,h2,rfl,rfl,rfl⟩
 ·rw[if_pos h1]
 ·rw[if_neg (fun e=>e h1),h2]
 ·rw[if_neg (fun e=>e h1),h2]
theorem Vx.small{h:Hi}{xs:List Int}{n way:Int}{h':Hi}{l:List Int}{E:Int}(r:Vx h xs n way h' l E):l.length<=200:=by
 have hm:=yE h xs n way;rw[r.VA]at hm;rcases r with⟨h1,rfl,rfl,rfl⟩|⟨h1,h2,rfl,rfl,rfl⟩|⟨h1,k,h2,rfl,rfl,rfl⟩
 ·simp
 ·simp
 ·exact(hm rfl).2
theorem Xe.small{h:Hi}{xs ps:List Int}{ol:Bool}{h':Hi}{l:List Int}{E:Int}(r:Xe h xs ps ol h' l E):l.length<=200:=by
 have hm:=r.ok;rcases r with⟨_,_,rfl,_⟩|⟨_,_,_,rfl,_⟩|⟨_,_,_,_,rfl,_⟩|⟨_,_,_,k,_,rfl,rfl,rfl⟩|⟨_,_,_,_,_,rfl,_⟩
 ·simp
 ·simp
 ·simp
 ·exact(hm rfl).2
 ·simp
theorem Y7.small{h:Hi}{xs:List Int}{tu:Bool}{h':Hi}{l:List Int}{E:Int}(r:Y7 h xs tu h' l E):l.length<=200:=by
 obtain⟨h1,hf,_⟩:=r;exact hf.small
theorem XH.len{F:Nat->Prop}{w:World}{a:Option Addr}{m c:Nat}{l:List Int}(h:XH F w (.slice a m c) l)(hl:l.length<=200):m<=4096:=by have:=h.get.1;omega
theorem JJ{F G:Nat->Prop}{w:World}{B:Nat}{f:Nat->Value}{S:SS}(h:HF F G w B f S):∃la ln lc sa sn sc pa pn pc,UO F w (.slice la ln lc) S.Qh.most S.Qh.QM (.slice sa sn sc) (.slice pa pn pc) S.Qh.older S.Qh/\
  f 37=.slice la ln lc/\f 38=.int .i64 S.Qh.most/\f 39=.int .i64 S.Qh.QM/\f 40=.slice sa sn sc/\f 41=.slice pa pn pc/\f 42=.bool S.Qh.older:=by
 obtain⟨la,ln,lc,sa,sn,sc,pa,pn,pc,e1,e2,e3⟩:=h.d.Qh.form;have r:=h.d.Qh;rw[e1,e2,e3]at r;exact⟨la,ln,lc,sa,sn,sc,pa,pn,pc,r,e1,h.d.MK,h.d.AA,e2,e3,h.d.holder⟩
theorem uE(F G:Nat->Prop)(B K:Nat)(S:SS)(key:Int)(w:World)(h:Zw F G w B S)(hI:Qt K S)(hk:key=13\/key=10)(hn:S.told.length<=4398046511103):
  Calls Tryz.prog 84 #[.pointer (some ⟨B,0,none⟩),.int .i64 key] w (VP F G w B (S.asked key) XU):=by
 obtain⟨f,hf⟩:=h;have hA:=At.begin hf;have he:S.asked key=({S with mode:=0}).moved (vz S.Qh S.text S.ask S.older):=by unfold SS.asked;rw[if_pos hk]
 rw[he];obtain⟨c2,z2⟩:=hf.m.blk.at 2;have hA2:=hA.store (S':={S with mode:=0}) 2 (.int .i64 0) {hA.hf.d with mode:=rfl};generalize hw2:w.setCell ⟨B,2,none⟩ (.int .i64 0)=w2 at hA2;obtain⟨p,hp⟩:=hA2.hf.d.text.ptr;obtain⟨la,ln,lc,sa,sn,sc,pa,pn,pc,hH,e37,e38,e39,e40,e41,e42⟩:=JJ hA2.hf;obtain⟨qa,qn,qc,e48⟩:=hA2.hf.d.ask.form;have x0:=hA2.hf.cell 0;have GJ:=hA2.hf.cell 37;have x38:=hA2.hf.cell 38;have x39:=hA2.hf.cell 39;have LJ:=hA2.hf.cell 40;have MN:=hA2.hf.cell 41;have MM:=hA2.hf.cell 42;have x48:=hA2.hf.cell 48;have ag:=hA2.hf.cell 49;rw[hp]at x0;rw[e37]at GJ;rw[e38]at x38;rw[e39]at x39;rw[e40]at LJ;rw[e41]at MN;rw[e42]at MM;rw[e48]at x48;rw[hA2.hf.d.older]at ag;have htx:=hA2.hf.d.text;have VC:=hA2.hf.d.ask;rw[hp]at htx;rw[e48]at VC;have HA2:=QQ hA2;have HI:=QQ hI;have bV:=QQ hn;have HH:=QQ hH;have HK:=QQ VC;have HT:=QQ (fun(w':World) (hb:Below w2.heap.size w2 w')=>Ul.list (htx.keep (G:=F) (ZZ.below F hb) (fun _ h=>h)) (show S.text.length<=10000 by have:=HI.out.tl;omega));have HW:=QQ hw2;clear hf hA hA2 hp hH e37 e38 e39 e40 e41 e42 e48 htx VC hI hn he hw2;rcases hk with rfl|rfl
 all_goals
  go_enter Tryz.func84,Tryz.ntmps84
  go_upto_region 3 with fail
  rw[HW.out]
  go_region_law (first
   | (go_simp;go_at_call 79;refine(HT.out _ ?_).mono ?_;(·first|exact QR.drew (Qx _ w2)|exact Qx _ w2);rintro e w5 ⟨v5,rfl,o5,hb5⟩;obtain⟨a5,n5,k5,rfl⟩:=o5.form;have Yu:Below w2.heap.size w2 w5:=(by first|exact QR.call hb5 (QR.drew (Qx _ w2))|exact hb5);have y37:=Qk Yu _ _ GJ;have y38:=Qk Yu _ _ x38;have y39:=Qk Yu _ _ x39;have y40:=Qk Yu _ _ LJ;have y41:=Qk Yu _ _ MN;have y42:=Qk Yu _ _ MM;have y48:=Qk Yu _ _ x48;have y49:=Qk Yu _ _ ag)
   | (go_simp;go_at_call 132;refine Calls.mono (AF _ _ _ _ _ _ S.Qh a5 n5 k5 S.text qa qn qc S.ask S.older w5 (HH.out.below Yu).hir o5.sl.get.2.2.2.1 o5.sl.get.1 o5.sl.get.2.2.2.2 (HK.out.below Yu).get.2.2.2.1 HK.out.get.1 HK.out.get.2.2.2.2 HK.out.get.2.1 HK.out.get.2.2.1) ?_;rintro e w8 ⟨h8,l8,E8,K7,lv,sv,pv,nv,rfl,Tq,Vf,ZU⟩;obtain⟨a8,n8,k8,rfl⟩:=Vf.form;have VG:=HA2.out.below (QR.call ZU Yu))
   | (go_simp;go_at_call 131;refine Calls.mono (UT _ _ B {S with mode:=0} lv sv pv h8 a8 n8 k8 l8 E8 w8 ⟨_,VG.hf⟩ (Tq.lt.imp fun k hk=>.inr ⟨QL Yu.size hk.1,hk.2⟩) (Vf.lt.imp fun k hk=>.inr ⟨QL Yu.size hk.1,hk.2⟩) (Vf.len K7.small) bV.out) ?_;rintro e w9 ⟨rfl,SN⟩))
  all_goals
   go_wp2
   go_end0
   obtain⟨F9,f9,VQ,-,-⟩:=VG.call SN;rw[gX K7];exact⟨rfl,VQ.done⟩
end Go.Proofs.YtmdcencmiopmmaaGreat
