/- joined, no condition of its own. -/
import Derived.Test.YtmdnepkekekncaaGreatJfJ38
set_option linter.unusedVariables false
set_option linter.unusedSimpArgs false
set_option maxRecDepth 100000
set_option maxHeartbeats 12000000
namespace Go.Proofs.YtmdnepkekekncaaGreat
open Go.RowKit
theorem dz(W0:World)(F G:Nat->Prop)(B K:Nat)(S:SS)(n:Int)(w:World)(h:YF F G w B S)(hI:Xz K S)(hm:S.mode=0)(h0:0<=n)(h9:n<=999)(hK:K<=4398046511103)(hn:S.told.length+K+2<=4398046511103):
  Calls Tryz.prog 93 #[.pointer (some ⟨B,0,none⟩),.int .i64 n] w (VP F G w B (S.again W0 n) YM):=by
 obtain⟨f,hf⟩:=h;have hA:=At.begin hf;have c46:=hf.cell 46;have hl:=hf.d.last;cases hlast:S.last with
 | none=>
  rw[hlast]at hl;have hl:f 46=.pointer none:=hl;rw[hl]at c46;have HB:=Zy (U9 F G B S w ⟨f,hf⟩ QQ);have he:S.again W0 n=S.Y2:=by unfold SS.again;rw[hlast]
  rw[he];clear hf hA hl hlast he hI hn;go_enter Tryz.func93,Tryz.ntmps93
  go_wp2_with fail
  refine HB.out.mono ?_;rintro e w2 ⟨rfl,hv⟩;exact QHp
 | some pr=>
  obtain⟨c,ty⟩:=pr;rw[hlast]at hl;obtain⟨C,tv,QV0,hFC,hC,htv⟩:=hl;rw[QV0]at c46;obtain⟨ta,tn,tc,rfl⟩:=htv.form;have hcz:∃c',c'=(if 0<n then {c with a:=n}else c:C5):=⟨_,rfl⟩;obtain⟨c',hc'⟩:=hcz;have hla:=hI.la c ty hlast;have hok:Km c':=by
   subst hc';split
   ·exact⟨h0,h9⟩
   ·exact hla.1
  have he:S.again W0 n=if(S.Kz W0 c').2=false\/(S.Kz W0 c').1.mode=0 then(S.Kz W0 c').1 else(ty.foldl SS.typed (S.Kz W0 c').1).typed 27:=by
   unfold SS.again;rw[hlast,hc']
  have hno:S.now=none:=hI.n0 (.inl hm);have hD:=hI.Kz (W:=W0) hm c' hok;have hT:=Tl.Kz W0 S c';obtain⟨k0,k1,k2,k3,k4,k5⟩:=Za.six hC;obtain⟨W3,hW3⟩:∃W3,W3=((w.alloc (.cells #[.int .i64 c.a,.int .i64 c.b,.int .i64 c.c,.int .i64 c.d,.int .i64 c.e,.slice ta tn tc] 162)).alloc (.cells #[.int .i64 c'.a,.int .i64 c'.b,.int .i64 c'.c,.int .i64 c'.d,.int .i64 c'.e] 39)):=⟨_,rfl⟩;have hb3:Below w.heap.size w W3:=by rw[hW3];exact Zp.alloc (Zp.alloc (ZH _ w))
  have hL1:Za W3 w.heap.size #[.int .i64 c.a,.int .i64 c.b,.int .i64 c.c,.int .i64 c.d,.int .i64 c.e,.slice ta tn tc] 162:=by rw[hW3];exact(Za.new w _ _).alloc _
  have hL2:Za W3 (w.heap.size+1) #[.int .i64 c'.a,.int .i64 c'.b,.int .i64 c'.c,.int .i64 c'.d,.int .i64 c'.e] 39:=by
   rw[hW3];have:=Za.new (w.alloc (.cells #[.int .i64 c.a,.int .i64 c.b,.int .i64 c.c,.int .i64 c.d,.int .i64 c.e,.slice ta tn tc] 162)) #[.int .i64 c'.a,.int .i64 c'.b,.int .i64 c'.c,.int .i64 c'.d,.int .i64 c'.e] 39
   rwa[Zu]at this
  have hA3:=hA.below hb3;have hz3:W3.heap.size=w.heap.size+1+1:=by rw[hW3,Zu,Zu]
  have nT:=Zy (NK W0 _ _ B K S c' W3 ⟨f,hA3.hf⟩ hI hm hok QQ);obtain⟨d0,d1,d2,d3,d4⟩:=Za.five hL2;have l5:W3.cell? ⟨w.heap.size,5,none⟩=some (.slice ta tn tc):=hL1.cell 5;have hF1:Fx F w W3 w.heap.size:=.inr ⟨ZB _,QQ⟩;have QUp:=(htv.below hb3).imp (Q:=Fx F w W3) Fx.old;have HE:=Zy he;have um:=Zy hA3;have HI:=Zy hI;have HTV:=Zy QUp;have HDD:=Zy hD;have HT:=Zy hT;have HLA:=Zy hla.2;have JM:=Zy hno;have oN:=Zy hn;have HW3:=Zy hW3;clear hA hf hA3 he hD hT hla htv QUp hI hno hn hlast hL1 hL2 hb3 hz3 hC hFC QV0 hm hW3;go_enter Tryz.func93,Tryz.ntmps93
  go_upto_if 24 with fail
  go_cut [25] (fun _ wx=>W3=wx)
  case first=>as_aux_lemma=>
   by_cases hn0:0<n
   ·obtain rfl:c'={c with a:=n}:=by rw[hc',if_pos hn0]
    clear d0 d1 d2 d3 d4 l5 hc';go_wp2;go_meet;exact HW3.out
   ·obtain rfl:c'=c:=by rw[hc',if_neg hn0]
    clear d0 d1 d2 d3 d4 l5 hc';go_wp2;go_meet;exact HW3.out
  case rest=>
   obtain rfl:=hcut;clear hc';go_wp2_with fail
   refine nT.out.mono ?_;rintro e w4 ⟨rfl,hv4⟩;obtain⟨F4,f4,UY,hsub,hsame⟩:=um.out.call hv4;have l54:w4.cell? ⟨w.heap.size,5,none⟩=some (.slice ta tn tc):=hsame.JB _ _ hF1 l5;have QUo:=(HTV.out.keep hsame.JB).imp hsub;obtain⟨c2,-⟩:=UY.hf.m.blk.at 2;rw[UY.hf.d.mode]at c2;have QWR:=Zy QUo;have pQ:=Zy UY;clear hv4 UY hsame QUo d0 d1 d2 d3 d4 l5 hsub;have hrr:∀b m,(S.Kz W0 c').2=b->(S.Kz W0 c').1.mode=m->True:=fun _ _ _ _=>trivial
   clear hrr;by_cases hfin:(S.Kz W0 c').2=false\/(S.Kz W0 c').1.mode=0
   ·as_aux_lemma=>
    have HF:=Zy hfin;rcases hfin with h2|h2
    ·rw[h2]
     clear h2;go_wp2
     go_end0
     exact⟨rfl,QD1⟩
    ·rw[h2]at c2
     clear h2;cases hb2:(S.Kz W0 c').2
     ·go_wp2
      go_end0
      exact⟨rfl,QD1⟩
     ·go_wp2
      go_end0
      exact⟨rfl,QD1⟩
   ·have h2:(S.Kz W0 c').2=true:=by
     cases h:(S.Kz W0 c').2
     ·exact absurd (.inl h) hfin
     ·rfl
    have hmm:((S.Kz W0 c').1.mode==0)=false:=by
     have:¬(S.Kz W0 c').1.mode=0:=fun e=>hfin (.inr e)
     simpa using this
    have HF:=Zy hfin;have hj:∀c7 Ho,(S.Kz W0 c').1.now=some (c7,Ho)->Ho.length<=0:=fun c7 Ho e=>by rw[HDD.out.2.2 h2 c7 Ho e JM.out];exact ZB _
    have HJ:=Zy hj;have HTT:=Zy (show∀j,j<=ty.length->((ty.take j).foldl SS.typed (S.Kz W0 c').1).told.length<=S.told.length+1+j from fun j hj2=>by
     obtain⟨m1,e1,e2,-⟩:=HT.out.told;obtain⟨m2,g1,g2,-⟩:=(Tl.Vw (ty.take j) (S.Kz W0 c').1).told;rw[g1,e1,ZN,ZN];rw[Zi]at g2
     omega)
    have HII:=Zy (show∀j,j<=ty.length->Xz K ((ty.take j).foldl SS.typed (S.Kz W0 c').1)from fun j hj2=>
     Xz.Vw (ty.take j) _ 0 HDD.out.1 HJ.out (by have:=HLA.out;rw[Zi];omega))
    have hset:(S.Kz W0 c').1.mode=(S.Kz W0 c').1.mode:=rfl;rw[h2];clear hfin hj h2 hset;go_wp2;obtain⟨g1,g2,g3,g4,g5⟩:=QWR.out.get;have HG:=Zy g1;have htn:tn<=4398046511103:=by have:=HLA.out;omega
    clear g1 g2 g3 g4 g5
    go_loopw [41] (fun x wr=>∃(j:Nat) (F':Nat->Prop) (f':Nat->Value),x=.int .i64 (j:Int)/\j<=tn/\At F G w F' wr B f' ((ty.take j).foldl SS.typed (S.Kz W0 c').1)/\Yn F' wr (.slice ta tn tc) ty) (fun x _=>tn-(intOf x).toNat)
    case atStart=>exact⟨0,F4,f4,rfl,QQ,pQ.out,QWR.out⟩
    case round=>
     obtain⟨j,F5,f5,rfl,hj,Kn,hs5⟩:=hrel;by_cases hlt:j<tn
     ·as_aux_lemma=>
      have hi0:(0:Int)<=(j:Int):=QQ;have hin:(j:Int)<(tn:Int):=QQ;have hjt:j<ty.length:=by rw[HG.out];exact hlt
      obtain⟨b1,o1,rfl,hcc⟩:=Ints.at hs5.get.2.2.2.1 hjt;have cv:=hcc j hjt;have hi:=HII.out j QQ;have ht:=HTT.out j QQ;have hnw:∀c7 Ho,((ty.take j).foldl SS.typed (S.Kz W0 c').1).now=some (c7,Ho)->Ho.length<=4398046511103:=fun c7 Ho e=>by have:=(hi.nw c7 Ho e).2;omega
      have nD:=Zy (vw F5 _ B _ (ix ty j) wr ⟨f5,Kn.hf⟩ hi.tl hi.p0 (by have:=hi.p1;have:=hi.tl;omega) (by have:=oN.out;have:=HLA.out;omega) hnw);have bz:=Zy Kn;have Mr:=Zy hs5;clear Kn hs5 hcc hi ht hnw;go_wp2_with (go_at_call 61;go_loud (refine(nD.out).mono ?_;rintro e w6 ⟨rfl,hv6⟩;have HV6:=Zy hv6;clear hv6))
      obtain⟨F6,f6,Wy,Ld,BA⟩:=bz.out.call HV6.out;refine⟨⟨j+1,F6,f6,Qy,QQ,?_,(Mr.out.keep BA.JB).imp Ld⟩,Qp⟩;rw[Xx (by rw[HG.out];exact hlt),List.foldl_append,<-Ya (by rw[HG.out];exact hlt)];exact Wy
     ·as_aux_lemma=>
      obtain rfl:j=tn:=QQ;rw[Z6 (by rw[HG.out];exact ZB _)]at Kn;have hi:=HII.out ty.length (ZB _);have ht:=HTT.out ty.length (ZB _);rw[Z6 (ZB _)]at hi ht;have hnw:∀c7 Ho,(ty.foldl SS.typed (S.Kz W0 c').1).now=some (c7,Ho)->Ho.length<=4398046511103:=fun c7 Ho e=>by have:=(hi.nw c7 Ho e).2;omega
      have nD:=Zy (vw F5 _ B _ 27 wr ⟨f5,Kn.hf⟩ hi.tl hi.p0 (by have:=hi.p1;have:=hi.tl;omega) (by have:=oN.out;have:=HLA.out;omega) hnw);have bz:=Zy Kn;clear Kn hs5 hi ht hnw hlt;go_wp2_with fail
      refine nD.out.mono ?_;rintro e w6 ⟨rfl,hv6⟩;go_wp2
      go_end0
      obtain⟨F6,f6,Wy,-,-⟩:=bz.out.call hv6;exact⟨rfl,by rw[HE.out,if_neg HF.out];exact Wy.done⟩
theorem Sz(F G:Nat->Prop)(B:Nat)(S:SS)(w:World)(h:YF F G w B S)(hl:S.text.length<=200)(hfl:S.first.length<=200)(hp:S.past.length<=30)(hn:S.told.length<=4398046511103):
  Calls Tryz.prog 92 #[.pointer (some ⟨B,0,none⟩)] w (VP F G w B S.Kv YM):=by
 obtain⟨f,hf⟩:=h;have hA:=At.begin hf;obtain⟨p,hpt⟩:=hf.d.text.ptr;obtain⟨q,hqt⟩:=hf.d.first.ptr
 have c0:=hf.cell 0;have c45:=hf.cell 45;rw[hpt]at c0;rw[hqt]at c45;have htx:=hf.d.text;have hfx:=hf.d.first
 rw[hpt]at htx;rw[hqt]at hfx;have H1:=Zy (fun(w':World) (hb:Below w.heap.size w w')=>Wd.list (htx.keep (G:=F) (Xv.below F hb) (fun _ h=>h)) (show S.text.length<=10000 from QQ));have H2:=Zy (fun(w':World) (hb:Below w.heap.size w w')=>Wd.list (hfx.keep (G:=F) (Xv.below F hb) (fun _ h=>h)) (show S.first.length<=10000 from QQ));have HA:=Zy hA;have oN:=Zy hn;have HP:=Zy hp;have HL:=Zy hl;have HFL:=Zy hfl;clear hf hA hpt hqt htx hfx hn hp hl hfl;go_enter Tryz.func92,Tryz.ntmps92
 go_upto_region 0 with fail
 go_cut [13] (fun v wx=>v=.bool (decide (S.text=S.first))/\Below w.heap.size w wx)
 case first=>
  go_region_law (first
   | (go_simp;go_at_call 51;(with_reducible show Calls _ _ #[.agg #[.pointer p]] _ _);refine(H1.out _ ?_).mono ?_;(·first|exact qU|exact Zp.drew (ZH _ w));rintro e w5 ⟨v5,rfl,o5,hb5⟩;obtain⟨a5,n5,k5,rfl⟩:=o5.form;have s5:=o5.sl;have JR:Below w.heap.size w w5:=(by first|exact Zp.call hb5 qU|exact Zp.call hb5 (Zp.drew (ZH _ w)));have x0:=Zd JR _ _ c0;have x45:=Zd JR _ _ c45;(try have t6:=s6.below hb5))
   | (go_simp;go_at_call 51;(with_reducible show Calls _ _ #[.agg #[.pointer q]] _ _);refine(H2.out _ ?_).mono ?_;(·first|exact JR|exact Zp.drew (ZH _ w));rintro e w6 ⟨v6,rfl,o6,hb6⟩;obtain⟨a6,n6,k6,rfl⟩:=o6.form;have s6:=o6.sl;have qU:Below w.heap.size w w6:=(by first|exact Zp.call hb6 JR|exact Zp.call hb6 (Zp.drew (ZH _ w)));have y0:=Zd qU _ _ c0;have y45:=Zd qU _ _ c45;(try have t5:=s5.below hb6))
   | (go_simp;go_at_call 12;refine(Ws _ _ _ _ _ _ S.text S.first _ ?_ ?_ ?_ ?_ ?_).mono ?_;(·first|exact t5.get.2.2.2.1|exact s5.get.2.2.2.1);(·first|exact t6.get.2.2.2.1|exact s6.get.2.2.2.1);(·exact s5.get.1);(·exact s6.get.1);(·have:=s5.get.2.1;have:=s5.get.2.2.1;omega);rintro e w7 ⟨rfl,nq,rfl⟩))
  all_goals
   go_wp2;go_meet;refine⟨rfl,?_⟩;refine below_drewN ?_ _;first|exact qU|exact JR
 case rest=>
  obtain⟨rfl,hb2⟩:=hcut;have hA2:=HA.out.JA hb2;have HA2:=Zy hA2;by_cases heq:S.text=S.first
  ·rw[decide_eq_true heq]
   have HB:=Zy (U9 _ _ B S _ ⟨f,hA2.hf⟩ oN.out);have he:S.Kv=S.Y2:=by unfold SS.Kv;rw[if_pos heq]
   have HE:=Zy he;clear hA2 heq he hb2;go_wp2_with fail
   refine HB.out.mono ?_;rintro e w7 ⟨rfl,hv⟩;go_wp2
   go_end0
   obtain⟨F',f',hA3,-,-⟩:=HA2.out.call hv;exact⟨rfl,QDy⟩
  ·rw[decide_eq_false heq]
   have HB:=Zy (PM _ _ B S _ ⟨f,hA2.hf⟩ HP.out);have he:S.Kv={S.save with text:=S.first,pos:=0}:=by unfold SS.Kv;rw[if_neg heq]
   have HE:=Zy he;clear hA2 heq he hb2;go_wp2_with fail
   refine HB.out.mono ?_;rintro e w7 ⟨rfl,hv⟩;obtain⟨F',f',hA3,-,-⟩:=HA2.out.call hv;obtain⟨q3,hq3⟩:=hA3.hf.d.first.ptr
   obtain⟨x0,z0⟩:=hA3.hf.m.blk.at 0;obtain⟨x1,z1⟩:=hA3.hf.m.blk.at 1;obtain⟨x45,z45⟩:=hA3.hf.m.blk.at 45;rw[hq3]at x45;have um:=Zy hA3;have HQ:=Zy hq3;clear hA3 hv hq3;go_wp2
   go_end0
   have hA3:=um.out;have hfx:=hA3.hf.d.first
   rw[HQ.out]at hfx;have UY:=hA3.store (S':={S.save with text:=S.first}) 0 (.pointer q3) {hA3.hf.d with text:=hfx};exact⟨rfl,by rw[HE.out];exact(UY.store (S':={S.save with text:=S.first,pos:=0}) 1 (.int .i64 0) {UY.hf.d with pos:=rfl}).done⟩
theorem pI(F G:Nat->Prop)(B:Nat)(S:SS)(w:World)(h:YF F G w B S)(hp:S.past.length<=30)(hn:S.told.length<=4398046511103):
  Calls Tryz.prog 91 #[.pointer (some ⟨B,0,none⟩)] w (VP F G w B S.back YM):=by
 obtain⟨f,hf⟩:=h;have hA:=At.begin hf;obtain⟨p,hpt⟩:=hf.d.text.ptr;obtain⟨us,hps,hsn⟩:=hf.d.past.get;have BC:=hps;obtain⟨a,n,c,hv,-⟩:=hps;rw[hv]at BC;obtain⟨g1,g2,g3,g4,g5⟩:=BC.get;have c0:=hf.cell 0;have c1:=hf.cell 1;have oM:=hf.cell 43;have c44:=hf.cell 44;rw[hpt]at c0;rw[hf.d.pos]at c1;rw[hv]at oM;rw[hf.d.fut]at c44;have HD:=Zy (fun(w':World) (hb:Below w.heap.size w w')=>Sa a n c us p S.pos w' (g4.Yc hb) hsn.oks g1 (by rw[<-g1,hsn.1];exact hp) g5);have HA:=Zy hA;have HSN:=Zy hsn;have HPT:=Zy hpt;have HN:=Zy (g1.symm.trans hsn.1);have hBl:=hf.vz;have oN:=Zy hn;have HP:=Zy g1;clear hf hA BC hsn hv g1 g2 g3 g4 g5 hpt hp hn;go_enter Tryz.func91,Tryz.ntmps91
 go_upto_region 0 with fail
 go_cut [2,3,4] (fun v2 v3 v4 wx=>∃H K a1 n1 c1 a2 n2 c2 p' q',v2=.pointer (some ⟨H,0,none⟩)/\v3=.pointer (some ⟨K,0,none⟩)/\v4=.bool (decide (0<us.length))/\w.heap.size<=H/\w.heap.size<=K/\wx.cell? ⟨H,0,none⟩=some (.slice a1 n1 c1)/\wx.cell? ⟨H,1,none⟩=some (.slice a2 n2 c2)/\wx.cell? ⟨K,0,none⟩=some (.pointer p')/\wx.cell? ⟨K,1,none⟩=some (.int .i64 q')/\(0<us.length->kP (fun k=>w.heap.size<=k) wx (.slice a1 n1 c1) us.dropLast/\xG us (us.length-1)=⟨.pointer p',.int .i64 q'⟩)/\Below w.heap.size w wx)
 case first=>
  go_region_law (first|(go_simp;go_at_call 130;refine(HD.out _ ?_).mono ?_;(·repeat' (first|(with_reducible exact ZH _ _)|(with_reducible refine Zp.alloc ?_)|(with_reducible refine Zp.drew ?_)));rintro e w5 ⟨a1,n1,c1,a2,n2,c2,p',q',rfl,hpq,hb5⟩;have hs5:w.heap.size<=w5.heap.size:=(by have:=hb5.size;simp at this;omega);(first|(refine jq (P:=Za w5 (w.heap.size) #[.slice none 0 0,.slice none 0 0] 88) ?_ ?_;(·repeat' (first|((with_reducible refine Jy ?_);(first|rfl|(simp;done)))|(with_reducible refine Za.Yc hb5 ?_)|(with_reducible refine Za.J2 ?_)|(with_reducible refine Za.Yf ?_)));intro hH2;have hlt2:=hH2.lt;obtain⟨h20,h21,k20,k21⟩:=hH2.two)|(refine jq (P:=Za w5 (w.heap.size+1) #[.slice none 0 0,.slice none 0 0] 88) ?_ ?_;(·repeat' (first|((with_reducible refine Jy ?_);(first|rfl|(simp;done)))|(with_reducible refine Za.Yc hb5 ?_)|(with_reducible refine Za.J2 ?_)|(with_reducible refine Za.Yf ?_)));intro hH2;have hlt2:=hH2.lt;obtain⟨h20,h21,k20,k21⟩:=hH2.two)|skip);(first|(refine jq (P:=Za w5 (w.heap.size) #[.pointer none,.int .i64 0] 83) ?_ ?_;(·repeat' (first|((with_reducible refine Jy ?_);(first|rfl|(simp;done)))|(with_reducible refine Za.Yc hb5 ?_)|(with_reducible refine Za.J2 ?_)|(with_reducible refine Za.Yf ?_)));intro hH3;have hlt3:=hH3.lt;obtain⟨h30,h31,k30,k31⟩:=hH3.two)|(refine jq (P:=Za w5 (w.heap.size+1) #[.pointer none,.int .i64 0] 83) ?_ ?_;(·repeat' (first|((with_reducible refine Jy ?_);(first|rfl|(simp;done)))|(with_reducible refine Za.Yc hb5 ?_)|(with_reducible refine Za.J2 ?_)|(with_reducible refine Za.Yf ?_)));intro hH3;have hlt3:=hH3.lt;obtain⟨h30,h31,k30,k31⟩:=hH3.two)|skip);have JR:Below w.heap.size w w5:=QG))
  all_goals
   go_wp2;go_meet;refine⟨_,_,a1,n1,c1,a2,n2,c2,p',q',rfl,rfl,rfl,QQ,QQ,?_,?_,?_,?_,fun h=>⟨(hpq h).1.Ry ?_ ?_,(hpq h).2⟩,?_⟩
   ·go_simp
   ·go_simp
   ·go_simp
   ·go_simp
   ·repeat' (first|(with_reducible exact Xv.refl _ _)|(with_reducible refine Xv.Yf ?_)|(with_reducible refine Xv.J2 ?_)|((with_reducible refine Xv.AP ?_ ?_);(intro hk;simp at hk;omega)))
   ·intro k hk
    simp at hk;omega
   ·repeat' (first|(with_reducible exact JR)|(with_reducible refine Zp.alloc ?_)|(with_reducible refine Zp.drew ?_)|((with_reducible refine Zp.set ?_ ?_);(first|omega|(simp;omega))))
 case rest=>
  obtain⟨H,K,a1,n1,c1',a2,n2,c2,p',q',rfl,rfl,rfl,hH,hK,x0,x1,x2,x3,hpq,hb2⟩:=hcut;obtain⟨wz,hWe⟩:∃W5,W5=wc:=⟨_,rfl⟩;subst hWe;have hA2:=HA.out.below hb2;have HA2:=Zy hA2;have HPQ:=Zy hpq;by_cases hz:us.length=0
  ·have hd:decide (0<us.length)=false:=decide_eq_false QQ
   rw[hd];have HB:=Zy (U9 (Fx F w wz) (Gx G w wz) B S wz ⟨f,hA2.hf⟩ oN.out);clear hA2 hpq;go_wp2_with fail
   refine HB.out.mono ?_;rintro e w7 ⟨rfl,hv⟩;go_wp2
   go_end0
   have he:S.back=S.Y2:=by
    unfold SS.back;rw[if_pos (by rw[<-HSN.out.1];exact hz)]
   obtain⟨F',f',hA3,-,-⟩:=HA2.out.call hv;exact⟨rfl,by rw[he];exact hA3.done⟩
  ·have hd:decide (0<us.length)=true:=decide_eq_true QQ
   rw[hd];have y0:=hA2.hf.cell 0;have y1:=hA2.hf.cell 1;have y43:=hA2.hf.cell 43;have y44:=hA2.hf.cell 44;have k0:=hA2.hf.free 0;have k1:=hA2.hf.free 1;have k43:=hA2.hf.free 43;have k44:=hA2.hf.free 44;have hHB:H≠B:=QQ;have hKB:K≠B:=QQ;clear hA2 hpq;go_upto_region 3 with fail
   go_region
   go_wp2
   go_end0
   have hsl:=HSN.out.1;have hl:S.past.length-1<S.past.length:=QQ;have hpl:(S.past.getLast?).getD ([],0)=S.past[S.past.length-1]:=by rw[List.getLast?_eq_getElem?,Z8 hl];rfl
   obtain⟨hps,hq⟩:=HPQ.out QQ;obtain⟨t1,t2⟩:=HSN.out.2 (S.past.length-1) hl;rw[hsl]at hq;rw[hq]at t1 t2;dsimp only at t1 t2;simp only[Value.int.injEq,true_and]at t2;have he:S.back={S with text:=S.past[S.past.length-1].1,pos:=q',past:=S.past.dropLast}:=by
    unfold SS.back;rw[if_neg QQ,hpl,t2]
   have hA2:=HA2.out;have hA3:=hA2.store (S':={S with past:=S.past.dropLast}) 43 (.slice a1 n1 c1') {hA2.hf.d with past:=((HSN.out.dropLast).keep (Xv.below _ hb2) Fx.old).snp (hps.lt.imp fun k hk=>Fx.new k hk)};have UY:=hA3.store (S':={S with past:=S.past.dropLast}) 44 (.slice none 0 0) {hA3.hf.d with fut:=rfl};have Kn:=UY.store (S':={S with text:=S.past[S.past.length-1].1,past:=S.past.dropLast}) 0 (.pointer p') {UY.hf.d with text:=((t1.keep (Xv.below _ hb2) Fx.old).keep (Xv.setCell (a:=⟨B,43,none⟩) hA2.hf.m.nB _) (fun _ h=>h)).keep (Xv.setCell (a:=⟨B,44,none⟩) hA2.hf.m.nB _) (fun _ h=>h)};have Wy:=Kn.store (S':={S with text:=S.past[S.past.length-1].1,pos:=q',past:=S.past.dropLast}) 1 (.int .i64 q') {Kn.hf.d with pos:=rfl};exact⟨rfl,by rw[he];exact Wy.drew.done⟩
theorem WE.form{F:Nat->Prop}{w:World}{lv:Value}{most Zm:Int}{sv pv:Value}{older:Bool}{h:Hi}(r:WE F w lv most Zm sv pv older h):∃la ln lc sa sn sc pa pn pc,lv=.slice la ln lc/\sv=.slice sa sn sc/\pv=.slice pa pn pc:=by
 obtain⟨sa,sn,sc,h1⟩:=r.XU.form;obtain⟨pa,pn,pc,h2⟩:=r.pat.form;obtain⟨vs,h3,-⟩:=r.ls;obtain⟨a,n,c,e,-⟩:=h3;exact⟨a,n,c,sa,sn,sc,pa,pn,pc,e,h1,h2⟩
theorem At.uX{F0 G0 F:Nat->Prop}{w0 w w':World}{B:Nat}{f:Nat->Value}{S:SS}{v:Value}{xs:List Int}(h:At F0 G0 w0 F w B f S)(o:Own 3 w.heap.size w' v xs):Yn (Fx F w w') w' v xs:=o.uX.lt.imp fun k hk=>Fx.new k hk
theorem WE.fx{F:Nat->Prop}{w w':World}{lv:Value}{most Zm:Int}{sv pv:Value}{older:Bool}{h:Hi}(r:WE (fun k=>w.heap.size<=k) w' lv most Zm sv pv older h):WE (Fx F w w') w' lv most Zm sv pv older h:=r.lt.imp fun k hk=>Fx.new k hk
theorem Sy(F G:Nat->Prop)(B:Nat)(S:SS)(w:World)(h:YF F G w B S)(hl:S.text.length<=200)(hh:jF S.XQ=0)(hn:S.told.length<=4398046511103):
  Calls Tryz.prog 58 #[.pointer (some ⟨B,0,none⟩)] w (VP F G w B S.accept YM):=by
 obtain⟨f,hf⟩:=h;have hA:=At.begin hf;obtain⟨p,hp⟩:=hf.d.text.ptr;obtain⟨c0,-⟩:=hf.m.blk.at 0;rw[hp]at c0;have htx:=hf.d.text;rw[hp]at htx;have HT:=Zy (Wd.list htx QQ);have HA:=Zy hA;have HN:=Zy hn;have HL:=Zy hl;have HH:=Zy hh;clear hf hA hp htx hn hl hh;go_enter Tryz.func58,Tryz.ntmps58
 go_wp2_with fail
 refine HT.out.mono ?_;rintro e w2 ⟨v,rfl,o2,hb2⟩;obtain⟨a2,n2,c2,rfl⟩:=o2.form;have hA2:=HA.out.below hb2;have hs2:=HA.out.uX o2;obtain⟨g1,g2,g3,g4,g5⟩:=hs2.get;have hh2:=hA2.hf.d.XQ;have HD:=Zy (ic _ _ _ _ _ _ S.XQ a2 n2 c2 S.text w2 hh2.hir g4 g1 g5);obtain⟨la,ln,lc,sa,sn,sc,pa,pn,pc,e1,e2,e3⟩:=hh2.form;obtain⟨c37,-⟩:=hA2.hf.m.blk.at 37;obtain⟨c38,-⟩:=hA2.hf.m.blk.at 38;obtain⟨c39,-⟩:=hA2.hf.m.blk.at 39;obtain⟨c40,-⟩:=hA2.hf.m.blk.at 40;obtain⟨c41,-⟩:=hA2.hf.m.blk.at 41;obtain⟨c42,-⟩:=hA2.hf.m.blk.at 42;rw[e1]at c37;rw[hA2.hf.d.RN]at c38;rw[hA2.hf.d.Ey]at c39;rw[e2]at c40;rw[e3]at c41;rw[hA2.hf.d.holder]at c42;rw[e1,e2,e3]at HD;unfold X7 at HD;have HA2:=Zy hA2;have HS2:=Zy hs2;have HG1:=Zy (show n2<=4096 by have:=HL.out;omega);clear hA2 hs2 hh2 g1 g2 g3 g4 g5 e1 e2 e3 o2 hb2;go_wp2_with fail
 refine HD.out.mono ?_;rintro e w3 ⟨h3,E3,hR,lv,sv,pv,rfl,hP,hb3⟩;obtain⟨rfl,rfl⟩:h3=qj S.XQ S.text/\E3=0:=by
  rcases hR with⟨q,_⟩|⟨_,q,_⟩|⟨_,_,q1,q2⟩
  ·exact absurd HH.out q
  ·have:=HL.out;omega
  ·exact⟨q1,q2⟩
 clear hR;obtain⟨la3,ln3,lc3,sa3,sn3,sc3,pa3,pn3,pc3,rfl,rfl,rfl⟩:=hP.form;have hA3:=HA2.out.below hb3;obtain⟨f4,UY,-⟩:=hA3.Pm (hh:=qj S.XQ S.text) (WE.fx hP);have nB:=hA3.hf.m.nB;have hl4:=(((((((HS2.out.below hb3).imp (Fx.old (w:=w2) (w':=w3))).Ua (i:=37) (u:=.slice la3 ln3 lc3) nB).Ua (i:=38) (u:=.int .i64 (qj S.XQ S.text).most) nB).Ua (i:=39) (u:=.int .i64 (qj S.XQ S.text).Zm) nB).Ua (i:=40) (u:=.slice sa3 sn3 sc3) nB).Ua (i:=41) (u:=.slice pa3 pn3 pc3) nB).Ua (i:=42) (u:=.bool (qj S.XQ S.text).older) nB;have HTL:=Zy (vQ _ _ B {S with XQ:=qj S.XQ S.text} 2 _ S.text _ ⟨f4,UY.hf⟩ hl4 HN.out);obtain⟨M4,z37⟩:=hA3.hf.m.blk.at 37;obtain⟨x38,z38⟩:=hA3.hf.m.blk.at 38;obtain⟨x39,z39⟩:=hA3.hf.m.blk.at 39;obtain⟨PG,z40⟩:=hA3.hf.m.blk.at 40;obtain⟨R6,z41⟩:=hA3.hf.m.blk.at 41;obtain⟨R5,z42⟩:=hA3.hf.m.blk.at 42;have pQ:=Zy UY;clear hA3 UY nB hl4 hP hb3 c0 c37 c38 c39 c40 c41 c42;unfold X7;go_wp2_with fail
 refine HTL.out.mono ?_;rintro e w5 ⟨rfl,hv⟩;obtain⟨F5,f5,Kn,-,-⟩:=pQ.out.call hv;have Wy:=Kn.Ph;have HBG:=Zy (AZ _ _ B _ none 0 0 [] 1 _ ⟨_,Wy.hf⟩ (Sl.nil _) QQ (.inr rfl));obtain⟨x47,z47⟩:=Kn.hf.m.blk.at 47;have HA6:=Zy Wy;clear Kn Wy hv;go_wp2_with fail
 refine HBG.out.mono ?_;rintro e w7 ⟨rfl,hv⟩;obtain⟨F7,f7,kC,-,-⟩:=HA6.out.call hv;have HA7:=Zy kC;clear kC hv;go_wp2
 go_end0
 exact⟨rfl,HA7.out.done⟩
theorem qD.qM{h:Hi}{xs:List Int}{n way:Int}{h':Hi}{l:List Int}{E:Int}(r:qD h xs n way h' l E):qM h xs n way=(h',l,E):=by
 unfold Go.Proofs.YtmdnepkekekncaaGreat.qM;rcases r with⟨h1,rfl,rfl,rfl⟩|⟨h1,h2,rfl,rfl,rfl⟩|⟨h1,k,h2,rfl,rfl,rfl⟩
 ·rw[if_pos h1]
 ·rw[if_neg (fun e=>e h1),h2]
 ·rw[if_neg (fun e=>e h1),h2]
theorem qD.small{h:Hi}{xs:List Int}{n way:Int}{h':Hi}{l:List Int}{E:Int}(r:qD h xs n way h' l E):l.length<=200:=by
 have hm:=vV h xs n way;rw[r.qM]at hm;rcases r with⟨h1,rfl,rfl,rfl⟩|⟨h1,h2,rfl,rfl,rfl⟩|⟨h1,k,h2,rfl,rfl,rfl⟩
 ·simp
 ·simp
 ·exact(hm rfl).2
theorem Y7.small{h:Hi}{xs ps:List Int}{ol:Bool}{h':Hi}{l:List Int}{E:Int}(r:Y7 h xs ps ol h' l E):l.length<=200:=by
 have hm:=r.ok;rcases r with⟨_,_,rfl,_⟩|⟨_,_,_,rfl,_⟩|⟨_,_,_,_,rfl,_⟩|⟨_,_,_,k,_,rfl,rfl,rfl⟩|⟨_,_,_,_,_,rfl,_⟩
 ·simp
 ·simp
 ·simp
 ·exact(hm rfl).2
 ·simp
theorem KN.small{h:Hi}{xs:List Int}{tu:Bool}{h':Hi}{l:List Int}{E:Int}(r:KN h xs tu h' l E):l.length<=200:=by
 obtain⟨h1,hf,_⟩:=r;exact hf.small
theorem Yn.len{F:Nat->Prop}{w:World}{a:Option Addr}{m c:Nat}{l:List Int}(h:Yn F w (.slice a m c) l)(hl:l.length<=200):m<=4096:=by have:=h.get.1;omega
theorem Kb{F G:Nat->Prop}{w:World}{B:Nat}{f:Nat->Value}{S:SS}(h:HF F G w B f S):∃la ln lc sa sn sc pa pn pc,WE F w (.slice la ln lc) S.XQ.most S.XQ.Zm (.slice sa sn sc) (.slice pa pn pc) S.XQ.older S.XQ/\
  f 37=.slice la ln lc/\f 38=.int .i64 S.XQ.most/\f 39=.int .i64 S.XQ.Zm/\f 40=.slice sa sn sc/\f 41=.slice pa pn pc/\f 42=.bool S.XQ.older:=by
 obtain⟨la,ln,lc,sa,sn,sc,pa,pn,pc,e1,e2,e3⟩:=h.d.XQ.form;have r:=h.d.XQ;rw[e1,e2,e3]at r;exact⟨la,ln,lc,sa,sn,sc,pa,pn,pc,r,e1,h.d.RN,h.d.Ey,e2,e3,h.d.holder⟩
theorem CF(F G:Nat->Prop)(B K:Nat)(S:SS)(key:Int)(w:World)(h:YF F G w B S)(hI:Xz K S)(hk:key=13\/key=10)(hn:S.told.length<=4398046511103):
  Calls Tryz.prog 57 #[.pointer (some ⟨B,0,none⟩),.int .i64 key] w (VP F G w B (S.asked key) YM):=by
 obtain⟨f,hf⟩:=h;have hA:=At.begin hf;have he:S.asked key=({S with mode:=0}).moved (Dj S.XQ S.text S.ask S.older):=by unfold SS.asked;rw[if_pos hk]
 rw[he];obtain⟨c2,z2⟩:=hf.m.blk.at 2;have hA2:=hA.store (S':={S with mode:=0}) 2 (.int .i64 0) {hA.hf.d with mode:=rfl};generalize hw2:w.setCell ⟨B,2,none⟩ (.int .i64 0)=w2 at hA2;obtain⟨p,hp⟩:=hA2.hf.d.text.ptr;obtain⟨la,ln,lc,sa,sn,sc,pa,pn,pc,hH,e37,e38,e39,e40,e41,e42⟩:=Kb hA2.hf;obtain⟨qa,qn,qc,e48⟩:=hA2.hf.d.ask.form;have x0:=hA2.hf.cell 0;have M4:=hA2.hf.cell 37;have x38:=hA2.hf.cell 38;have x39:=hA2.hf.cell 39;have PG:=hA2.hf.cell 40;have R6:=hA2.hf.cell 41;have R5:=hA2.hf.cell 42;have x48:=hA2.hf.cell 48;have oq:=hA2.hf.cell 49;rw[hp]at x0;rw[e37]at M4;rw[e38]at x38;rw[e39]at x39;rw[e40]at PG;rw[e41]at R6;rw[e42]at R5;rw[e48]at x48;rw[hA2.hf.d.older]at oq;have htx:=hA2.hf.d.text;have qN:=hA2.hf.d.ask;rw[hp]at htx;rw[e48]at qN;have HA2:=Zy hA2;have HI:=Zy hI;have oN:=Zy hn;have HH:=Zy hH;have HK:=Zy qN;have HT:=Zy (fun(w':World) (hb:Below w2.heap.size w2 w')=>Wd.list (htx.keep (G:=F) (Xv.below F hb) (fun _ h=>h)) (show S.text.length<=10000 from QFV));have HW:=Zy hw2;clear hf hA hA2 hp hH e37 e38 e39 e40 e41 e42 e48 htx qN hI hn he hw2;rcases hk with rfl|rfl
 all_goals
  go_enter Tryz.func57,Tryz.ntmps57
  go_upto_region 3 with fail
  rw[HW.out]
  go_region_law (first
   | (go_simp;go_at_call 51;refine(HT.out _ ?_).mono ?_;(·first|exact Zp.drew (ZH _ w2)|exact ZH _ w2);rintro e w5 ⟨v5,rfl,o5,hb5⟩;obtain⟨a5,n5,k5,rfl⟩:=o5.form;have JR:Below w2.heap.size w2 w5:=(by first|exact Zp.call hb5 (Zp.drew (ZH _ w2))|exact hb5);have y37:=Zd JR _ _ M4;have y38:=Zd JR _ _ x38;have y39:=Zd JR _ _ x39;have y40:=Zd JR _ _ PG;have y41:=Zd JR _ _ R6;have y42:=Zd JR _ _ R5;have y48:=Zd JR _ _ x48;have y49:=Zd JR _ _ oq)
   | (go_simp;go_at_call 80;refine Calls.mono (Eu _ _ _ _ _ _ S.XQ a5 n5 k5 S.text qa qn qc S.ask S.older w5 (HH.out.below JR).hir o5.sl.get.2.2.2.1 o5.sl.get.1 o5.sl.get.2.2.2.2 (HK.out.below JR).get.2.2.2.1 HK.out.get.1 HK.out.get.2.2.2.2 HK.out.get.2.1 HK.out.get.2.2.1) ?_;rintro e w8 ⟨h8,l8,E8,VJ,lv,sv,pv,nv,rfl,T9,zx,XH⟩;obtain⟨a8,n8,k8,rfl⟩:=zx.form;have qf:=HA2.out.below (Zp.call XH JR))
   | (go_simp;go_at_call 79;refine Calls.mono (WH _ _ B {S with mode:=0} lv sv pv h8 a8 n8 k8 l8 E8 w8 ⟨_,qf.hf⟩ (T9.lt.imp fun k hk=>.inr ⟨Zf JR.size hk.1,hk.2⟩) (zx.lt.imp fun k hk=>.inr ⟨Zf JR.size hk.1,hk.2⟩) (zx.len VJ.small) oN.out) ?_;rintro e w9 ⟨rfl,iG⟩))
  all_goals
   go_wp2
   go_end0
   obtain⟨F9,f9,qV,-,-⟩:=qf.call iG;rw[QQa VJ];exact⟨rfl,qV.done⟩
theorem CE(W0:World)(F G:Nat->Prop)(B K:Nat)(S:SS)(ca cb cc cd ce:Int)(w:World)(h:YF F G w B S)(hI:Xz K S)(hm:S.mode=0)(hc:0<=ca/\ca<=999)(hK:K<=4398046511103)(hn:S.told.length+K+2<=4398046511103)(h0:cc≠0):
  Calls Tryz.prog 63 #[.pointer (some ⟨B,0,none⟩),.agg #[.int .i64 ca,.int .i64 cb,.int .i64 cc,.int .i64 cd,.int .i64 ce]] w (VP F G w B (S.command W0 ⟨ca,cb,cc,cd,ce⟩) YM):=by
 obtain⟨f,hf⟩:=h;have hb1:=ZR w (.cells #[.int .i64 ca,.int .i64 cb,.int .i64 cc,.int .i64 cd,.int .i64 ce] 39);have KR:=Za.new w #[.int .i64 ca,.int .i64 cb,.int .i64 cc,.int .i64 cd,.int .i64 ce] 39;have hA1:=(At.begin hf).below hb1;obtain⟨p,hpt⟩:=hf.d.text.ptr;have c0:=hA1.hf.cell 0;have htx:=hA1.hf.d.text;rw[hpt]at c0 htx;have HT:=Zy (Wd.list htx Qn);have HI:=Zy hI;have HN:=Zy hn;have HA1:=Zy hA1;have HM:=Zy hm;have he:S.command W0 ⟨ca,cb,cc,cd,ce⟩=(S.Kz W0 ⟨ca,cb,cc,cd,ce⟩).1:=by
  unfold SS.command;dsimp only;rw[if_pos h0]
 have HE:=Zy he;clear hI hn hf hb1 hA1 hpt htx he hm;go_enter Tryz.func63,Tryz.ntmps63
 go_wp2_with fail
 refine HT.out.mono ?_;rintro e w2 ⟨v,rfl,o2,hb2⟩;obtain⟨a2,n2,k2,rfl⟩:=o2.form;have hA2:=HA1.out.below hb2;obtain⟨d0,d1,d2,d3,d4⟩:=Za.five (KR.below hb2 KR.lt);clear c0 KR;have h1:(cc !=0)=true:=Q7;have HB:=Zy (NK W0 _ _ B K S ⟨ca,cb,cc,cd,ce⟩ w2 ⟨f,hA2.hf⟩ HI.out HM.out hc QD2);exact QGS
theorem uC(W0:World)(F G:Nat->Prop)(B K:Nat)(S:SS)(ca cb cc cd ce:Int)(w:World)(h:YF F G w B S)(hI:Xz K S)(hm:S.mode=0)(hc:0<=ca/\ca<=999)(hK:K<=4398046511103)(hn:S.told.length+K+2<=4398046511103)(h0:cd≠117)(h1:cd≠85)(h2:cd≠46)(h3:cd≠107)(h4:cd≠106)(h5:cd≠71)(h6:cd≠110)(h7:cd≠78)(h8:cd≠47)(h9:cd≠63):
  Calls Tryz.prog 63 #[.pointer (some ⟨B,0,none⟩),.agg #[.int .i64 ca,.int .i64 cb,.int .i64 0,.int .i64 cd,.int .i64 ce]] w (VP F G w B (S.command W0 ⟨ca,cb,0,cd,ce⟩) YM):=by
 obtain⟨f,hf⟩:=h;have hb1:=ZR w (.cells #[.int .i64 ca,.int .i64 cb,.int .i64 0,.int .i64 cd,.int .i64 ce] 39);have KR:=Za.new w #[.int .i64 ca,.int .i64 cb,.int .i64 0,.int .i64 cd,.int .i64 ce] 39;have hA1:=(At.begin hf).below hb1;obtain⟨p,hpt⟩:=hf.d.text.ptr;have c0:=hA1.hf.cell 0;have htx:=hA1.hf.d.text;rw[hpt]at c0 htx;have HT:=Zy (Wd.list htx Qn);have HI:=Zy hI;have HN:=Zy hn;have HA1:=Zy hA1;have HM:=Zy hm;have he:S.command W0 ⟨ca,cb,0,cd,ce⟩=(S.Kz W0 ⟨ca,cb,0,cd,ce⟩).1:=by
  unfold SS.command;dsimp only;rw[if_neg QZ,if_neg h0,if_neg h1,if_neg h2,if_neg h3,if_neg h4,if_neg h5,if_neg QQ,if_neg QQ]
 have HE:=Zy he;clear hI hn hf hb1 hA1 hpt htx he hm;go_enter Tryz.func63,Tryz.ntmps63
 go_wp2_with fail
 refine HT.out.mono ?_;rintro e w2 ⟨v,rfl,o2,hb2⟩;obtain⟨a2,n2,k2,rfl⟩:=o2.form;have hA2:=HA1.out.below hb2;obtain⟨d0,d1,d2,d3,d4⟩:=Za.five (KR.below hb2 KR.lt);clear c0 KR;have g0:(cd==117)=false:=Q7;have g1:(cd==85)=false:=QEX;have g2:(cd==46)=false:=QEZ;have g3:(cd==107)=false:=QEQ;have g4:(cd==106)=false:=QEa;have g5:(cd==71)=false:=by simpa using h5
 have g6:(cd==110)=false:=by simpa using h6
 have g7:(cd==78)=false:=by simpa using h7
 have g8:(cd==47)=false:=by simpa using h8
 have g9:(cd==63)=false:=by simpa using h9
 have HB:=Zy (NK W0 _ _ B K S ⟨ca,cb,0,cd,ce⟩ w2 ⟨f,hA2.hf⟩ HI.out HM.out hc QD2);exact QGS
theorem Ef(W0:World)(F G:Nat->Prop)(B K:Nat)(S:SS)(ca cb cc cd ce:Int)(w:World)(h:YF F G w B S)(hI:Xz K S)(hm:S.mode=0)(hc:0<=ca/\ca<=999)(hK:K<=4398046511103)(hn:S.told.length+K+2<=4398046511103):
  Calls Tryz.prog 63 #[.pointer (some ⟨B,0,none⟩),.agg #[.int .i64 ca,.int .i64 cb,.int .i64 0,.int .i64 117,.int .i64 ce]] w (VP F G w B (S.command W0 ⟨ca,cb,0,117,ce⟩) YM):=by
 obtain⟨f,hf⟩:=h;have hb1:=ZR w (.cells #[.int .i64 ca,.int .i64 cb,.int .i64 0,.int .i64 117,.int .i64 ce] 39);have KR:=Za.new w #[.int .i64 ca,.int .i64 cb,.int .i64 0,.int .i64 117,.int .i64 ce] 39;have hA1:=(At.begin hf).below hb1;obtain⟨p,hpt⟩:=hf.d.text.ptr;have c0:=hA1.hf.cell 0;have htx:=hA1.hf.d.text;rw[hpt]at c0 htx;have HT:=Zy (Wd.list htx Qn);have HI:=Zy hI;have HN:=Zy hn;have HA1:=Zy hA1;have HM:=Zy hm;have he:S.command W0 ⟨ca,cb,0,117,ce⟩=S.back:=by
  unfold SS.command;dsimp only;rw[if_neg QZ];rw[if_pos rfl]
 have HE:=Zy he;clear hI hn hf hb1 hA1 hpt htx he hm;go_enter Tryz.func63,Tryz.ntmps63
 go_wp2_with fail
 refine HT.out.mono ?_;rintro e w2 ⟨v,rfl,o2,hb2⟩;obtain⟨a2,n2,k2,rfl⟩:=o2.form;have hA2:=HA1.out.below hb2;obtain⟨d0,d1,d2,d3,d4⟩:=Za.five (KR.below hb2 KR.lt);clear c0 KR;have HB:=Zy (pI _ _ B S w2 ⟨f,hA2.hf⟩ HI.out.pl QD2);exact QGS
theorem El(W0:World)(F G:Nat->Prop)(B K:Nat)(S:SS)(ca cb cc cd ce:Int)(w:World)(h:YF F G w B S)(hI:Xz K S)(hm:S.mode=0)(hc:0<=ca/\ca<=999)(hK:K<=4398046511103)(hn:S.told.length+K+2<=4398046511103):
  Calls Tryz.prog 63 #[.pointer (some ⟨B,0,none⟩),.agg #[.int .i64 ca,.int .i64 cb,.int .i64 0,.int .i64 85,.int .i64 ce]] w (VP F G w B (S.command W0 ⟨ca,cb,0,85,ce⟩) YM):=by
 obtain⟨f,hf⟩:=h;have hb1:=ZR w (.cells #[.int .i64 ca,.int .i64 cb,.int .i64 0,.int .i64 85,.int .i64 ce] 39);have KR:=Za.new w #[.int .i64 ca,.int .i64 cb,.int .i64 0,.int .i64 85,.int .i64 ce] 39;have hA1:=(At.begin hf).below hb1;obtain⟨p,hpt⟩:=hf.d.text.ptr;have c0:=hA1.hf.cell 0;have htx:=hA1.hf.d.text;rw[hpt]at c0 htx;have HT:=Zy (Wd.list htx Qn);have HI:=Zy hI;have HN:=Zy hn;have HA1:=Zy hA1;have HM:=Zy hm;have he:S.command W0 ⟨ca,cb,0,85,ce⟩=S.Kv:=by
  unfold SS.command;dsimp only;rw[if_neg QZ];rw[if_neg QZ];rw[if_pos rfl]
 have HE:=Zy he;clear hI hn hf hb1 hA1 hpt htx he hm;go_enter Tryz.func63,Tryz.ntmps63
 go_wp2_with fail
 refine HT.out.mono ?_;rintro e w2 ⟨v,rfl,o2,hb2⟩;obtain⟨a2,n2,k2,rfl⟩:=o2.form;have hA2:=HA1.out.below hb2;obtain⟨d0,d1,d2,d3,d4⟩:=Za.five (KR.below hb2 KR.lt);clear c0 KR;have HB:=Zy (Sz _ _ B S w2 ⟨f,hA2.hf⟩ HI.out.tl HI.out.fl HI.out.pl QD2);exact QGS
theorem AQ(W0:World)(F G:Nat->Prop)(B K:Nat)(S:SS)(ca cb cc cd ce:Int)(w:World)(h:YF F G w B S)(hI:Xz K S)(hm:S.mode=0)(hc:0<=ca/\ca<=999)(hK:K<=4398046511103)(hn:S.told.length+K+2<=4398046511103):
  Calls Tryz.prog 63 #[.pointer (some ⟨B,0,none⟩),.agg #[.int .i64 ca,.int .i64 cb,.int .i64 0,.int .i64 46,.int .i64 ce]] w (VP F G w B (S.command W0 ⟨ca,cb,0,46,ce⟩) YM):=by
 obtain⟨f,hf⟩:=h;have hb1:=ZR w (.cells #[.int .i64 ca,.int .i64 cb,.int .i64 0,.int .i64 46,.int .i64 ce] 39);have KR:=Za.new w #[.int .i64 ca,.int .i64 cb,.int .i64 0,.int .i64 46,.int .i64 ce] 39;have hA1:=(At.begin hf).below hb1;obtain⟨p,hpt⟩:=hf.d.text.ptr;have c0:=hA1.hf.cell 0;have htx:=hA1.hf.d.text;rw[hpt]at c0 htx;have HT:=Zy (Wd.list htx Qn);have HI:=Zy hI;have HN:=Zy hn;have HA1:=Zy hA1;have HM:=Zy hm;have he:S.command W0 ⟨ca,cb,0,46,ce⟩=S.again W0 ca:=by
  unfold SS.command;dsimp only;rw[if_neg QZ];rw[if_neg QZ];rw[if_neg QZ];rw[if_pos rfl]
 have HE:=Zy he;clear hI hn hf hb1 hA1 hpt htx he hm;go_enter Tryz.func63,Tryz.ntmps63
 go_wp2_with fail
 refine HT.out.mono ?_;rintro e w2 ⟨v,rfl,o2,hb2⟩;obtain⟨a2,n2,k2,rfl⟩:=o2.form;have hA2:=HA1.out.below hb2;obtain⟨d0,d1,d2,d3,d4⟩:=Za.five (KR.below hb2 KR.lt);clear c0 KR;have HB:=Zy (dz W0 _ _ B K S ca w2 ⟨f,hA2.hf⟩ HI.out HM.out hc.1 hc.2 hK HN.out);exact QGS
theorem CB(W0:World)(F G:Nat->Prop)(B K:Nat)(S:SS)(ca cb cc cd ce:Int)(w:World)(h:YF F G w B S)(hI:Xz K S)(hm:S.mode=0)(hc:0<=ca/\ca<=999)(hK:K<=4398046511103)(hn:S.told.length+K+2<=4398046511103):
  Calls Tryz.prog 63 #[.pointer (some ⟨B,0,none⟩),.agg #[.int .i64 ca,.int .i64 cb,.int .i64 0,.int .i64 47,.int .i64 ce]] w (VP F G w B (S.command W0 ⟨ca,cb,0,47,ce⟩) YM):=by
 obtain⟨f,hf⟩:=h;have hb1:=ZR w (.cells #[.int .i64 ca,.int .i64 cb,.int .i64 0,.int .i64 47,.int .i64 ce] 39);have KR:=Za.new w #[.int .i64 ca,.int .i64 cb,.int .i64 0,.int .i64 47,.int .i64 ce] 39;have hA1:=(At.begin hf).below hb1;obtain⟨p,hpt⟩:=hf.d.text.ptr;have c0:=hA1.hf.cell 0;have htx:=hA1.hf.d.text;rw[hpt]at c0 htx;have HT:=Zy (Wd.list htx Qn);have HI:=Zy hI;have HN:=Zy hn;have HA1:=Zy hA1;have HM:=Zy hm;have he:S.command W0 ⟨ca,cb,0,47,ce⟩={S with mode:=3,ask:=[],older:=true}:=by
  exact QH7
 have HE:=Zy he;clear hI hn hf hb1 hA1 hpt htx he hm;go_enter Tryz.func63,Tryz.ntmps63
 go_wp2_with fail
 refine HT.out.mono ?_;rintro e w2 ⟨v,rfl,o2,hb2⟩;obtain⟨a2,n2,k2,rfl⟩:=o2.form;have hA2:=HA1.out.below hb2;obtain⟨d0,d1,d2,d3,d4⟩:=Za.five (KR.below hb2 KR.lt);clear c0 KR;have c2:=hA2.hf.cell 2;have z2:=hA2.hf.free 2;have c48:=hA2.hf.cell 48;have z48:=hA2.hf.free 48;have c49:=hA2.hf.cell 49;have z49:=hA2.hf.free 49;have HA2:=Zy hA2;clear hA2 o2 hb2;go_upto_region 23 with fail
 go_region
 go_wp2
 go_end0
 have hA2:=HA2.out.drew;have hA3:=hA2.store (S':={S with mode:=3}) 2 (.int .i64 3) {hA2.hf.d with mode:=rfl};have UY:=hA3.store (S':={S with mode:=3,ask:=[]}) 48 (.slice none 0 0) {hA3.hf.d with ask:=Yn.nil _ _};have Kn:=UY.store (S':={S with mode:=3,ask:=[],older:=true}) 49 (.bool true) {UY.hf.d with older:=rfl};exact⟨rfl,by rw[HE.out];exact Kn.done⟩
theorem Cv(W0:World)(F G:Nat->Prop)(B K:Nat)(S:SS)(ca cb cc cd ce:Int)(w:World)(h:YF F G w B S)(hI:Xz K S)(hm:S.mode=0)(hc:0<=ca/\ca<=999)(hK:K<=4398046511103)(hn:S.told.length+K+2<=4398046511103):
  Calls Tryz.prog 63 #[.pointer (some ⟨B,0,none⟩),.agg #[.int .i64 ca,.int .i64 cb,.int .i64 0,.int .i64 63,.int .i64 ce]] w (VP F G w B (S.command W0 ⟨ca,cb,0,63,ce⟩) YM):=by
 obtain⟨f,hf⟩:=h;have hb1:=ZR w (.cells #[.int .i64 ca,.int .i64 cb,.int .i64 0,.int .i64 63,.int .i64 ce] 39);have KR:=Za.new w #[.int .i64 ca,.int .i64 cb,.int .i64 0,.int .i64 63,.int .i64 ce] 39;have hA1:=(At.begin hf).below hb1;obtain⟨p,hpt⟩:=hf.d.text.ptr;have c0:=hA1.hf.cell 0;have htx:=hA1.hf.d.text;rw[hpt]at c0 htx;have HT:=Zy (Wd.list htx Qn);have HI:=Zy hI;have HN:=Zy hn;have HA1:=Zy hA1;have HM:=Zy hm;have he:S.command W0 ⟨ca,cb,0,63,ce⟩={S with mode:=3,ask:=[],older:=false}:=by
  exact QH7
 have HE:=Zy he;clear hI hn hf hb1 hA1 hpt htx he hm;go_enter Tryz.func63,Tryz.ntmps63
 go_wp2_with fail
 refine HT.out.mono ?_;rintro e w2 ⟨v,rfl,o2,hb2⟩;obtain⟨a2,n2,k2,rfl⟩:=o2.form;have hA2:=HA1.out.below hb2;obtain⟨d0,d1,d2,d3,d4⟩:=Za.five (KR.below hb2 KR.lt);clear c0 KR;have c2:=hA2.hf.cell 2;have z2:=hA2.hf.free 2;have c48:=hA2.hf.cell 48;have z48:=hA2.hf.free 48;have c49:=hA2.hf.cell 49;have z49:=hA2.hf.free 49;have HA2:=Zy hA2;clear hA2 o2 hb2;go_upto_region 23 with fail
 go_region
 go_wp2
 go_end0
 have hA2:=HA2.out.drew;have hA3:=hA2.store (S':={S with mode:=3}) 2 (.int .i64 3) {hA2.hf.d with mode:=rfl};have UY:=hA3.store (S':={S with mode:=3,ask:=[]}) 48 (.slice none 0 0) {hA3.hf.d with ask:=Yn.nil _ _};have Kn:=UY.store (S':={S with mode:=3,ask:=[],older:=false}) 49 (.bool false) {UY.hf.d with older:=rfl};exact⟨rfl,by rw[HE.out];exact Kn.done⟩
end Go.Proofs.YtmdnepkekekncaaGreat
