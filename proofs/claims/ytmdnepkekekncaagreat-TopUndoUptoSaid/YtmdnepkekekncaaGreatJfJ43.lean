/- joined, no condition of its own. -/
import Derived.Test.YtmdnepkekekncaaGreatJfJ42
set_option linter.unusedVariables false
set_option linter.unusedSimpArgs false
set_option maxRecDepth 100000
set_option maxHeartbeats 12000000
namespace Go.Proofs.YtmdnepkekekncaaGreat
open Go.RowKit
theorem Wd.len{F:Nat->Prop}{w:World}{p:Option Addr}{l:List Int}(h:Wd F w (.pointer p) l):Calls Tryz.prog 59 #[.agg #[.pointer p]] w fun e w'=>e=.returned (.int .i64 (l.length:Int))/\Below w.heap.size w w':=by
 obtain⟨T,h1,rfl⟩:=h;exact Af p T w h1.tree
theorem nX{ops:Array Oper}{rest:List Oper}{o:Oper}{a:Act}{Q:Exit->Act->World->Prop}{w:World}(hgd:o.guard=none)(s x:Operand)
  (ho:o.op=.call {callee:=.builtin .append,args:=#[s,x],argTypes:=#[22,22]})
  (base:Nat) (v:Value) (xs ys:List Int) (ad:Option Addr) (m c:Nat) (hs:a.eval s=v) (hx:a.eval x=.slice ad m c)
  (hown:Own 3 base w v xs) (hy:Ints w ad ys) (hm:ys.length=m) (h0:ad=none->m=0) (hl:xs.length+m<=17592186044416) (hbase:base<=w.heap.size)
  (h:∀v' w',Own 3 base w' v' (xs++ys)->w.grownBy w' v.ownBlock->(v'.ownBlock=v.ownBlock\/v'.ownBlock=some w.heap.size)->wpList Tryz.prog ops Q rest (a.put o.dst v') w'):
  wpList Tryz.prog ops Q (o::rest) a w:=by
 rcases ad with _|ad
 ·obtain rfl:m=0:=h0 rfl
  obtain rfl:ys=[]:=ZM hm;refine Lib.wpList_append_run w hgd s x _ _ ho v (.slice none 0 c) hs hx v w (W9 w _ v xs base c hown QQ) ?_;exact h v w QEd ⟨rfl,rfl,rfl,ZB _,fun _ _ _=>rfl⟩ (.inl rfl)
 ·exact QJo hgd s x ho base v xs ys ad m c hs hx hown hy hm hl hbase h
theorem FV(p off width:Int)(h:2<=width):XT p (XT p off width) width=XT p off width:=by
 unfold XT;by_cases h1:p<off
 ·rw[if_pos h1,if_neg QQ,if_neg QQ]
 ·by_cases h2:off+width<=p
  ·rw[if_neg h1,if_pos h2,if_neg QQ,if_neg QQ]
  ·rw[if_neg h1,if_neg h2,if_neg h1,if_neg h2]
structure RwP (S1:SS) (w wx:World) (R:Nat) (a:Option Addr) (n c:Nat):Prop where
 lo:w.heap.size<=R
 c0:wx.cell? ⟨R,0,none⟩=some (.slice a n c)
 c1:wx.cell? ⟨R,1,none⟩=some (.int .i64 (S1.pos-S1.off))
 sl:Yn (fun k=>w.heap.size<=k/\k≠R) wx (.slice a n c) (Uk S1.text S1.off S1.width)
 Xw:Below w.heap.size w wx
theorem QzX{S1:SS}{w w6:World}{L n c Wz:Nat}{a:Option Addr}(hL:Za w6 L #[.slice none 0 0,.int .i64 0] 51)(hlo:w.heap.size<=L)(hlt:L<Wz)(o:Own 3 Wz w6 (.slice a n c) (Uk S1.text S1.off S1.width))(hB:Below w.heap.size w w6):
  RwP S1 w ((w6.setCell ⟨L,0,none⟩ (.slice a n c)).setCell ⟨L,1,none⟩ (.int .i64 (S1.pos-S1.off))) L a n c:=by
 obtain⟨k0,k1,-,-⟩:=((hL.set 0 (.slice a n c)).set 1 (.int .i64 (S1.pos-S1.off))).two;have hs:Yn (fun k=>w.heap.size<=k/\k≠L) w6 (.slice a n c) (Uk S1.text S1.off S1.width):=o.uX.imp fun k hk=>QQ
 have hnF:¬(w.heap.size<=L/\L≠L):=fun e=>e.2 rfl
 exact⟨hlo,k0,k1,(hs.Ua (i:=0) (u:=.slice a n c) hnF).Ua (i:=1) (u:=.int .i64 (S1.pos-S1.off)) hnF,(hB.setCell (p:=⟨L,0,none⟩) hlo _).setCell (p:=⟨L,1,none⟩) hlo _⟩
theorem QzY{S1:SS}{w w6:World}{n c Wz:Nat}{a:Option Addr}(hz:w.heap.size<=Wz)(o:Own 3 Wz w6 (.slice a n c) (Uk S1.text S1.off S1.width))(hB:Below w.heap.size w w6):
  RwP S1 w (w6.alloc (.cells #[.slice a n c,.int .i64 (S1.pos-S1.off)] 51)) w6.heap.size a n c:=by
 obtain⟨k0,k1,-,-⟩:=(Za.new w6 #[.slice a n c,.int .i64 (S1.pos-S1.off)] 51).two;exact⟨hB.size,k0,k1,(o.uX.lt.imp fun k hk=>QQ).below (ZR _ _),Zp.alloc hB⟩
def SqS(B:Nat)(p:Option Addr)(S1:SS)(w w':World):Prop:=w'.cell? ⟨B,0,none⟩=some (.pointer p)/\w'.cell? ⟨B,1,none⟩=some (.int .i64 S1.pos)/\w'.cell? ⟨B,51,none⟩=some (.int .i64 S1.off)/\w'.cell? ⟨B,52,none⟩=some (.int .i64 S1.width)/\Below w.heap.size w w'
theorem sqK{B:Nat}{p:Option Addr}{S1:SS}{w wa wb:World}(hB:B<w.heap.size)(h:SqS B p S1 w wa)(hb:Below w.heap.size wa wb):SqS B p S1 w wb:=by
 obtain⟨h1,h2,h3,h4,h5⟩:=h;exact⟨QFY,QFX,by rw[hb.cell hB];exact h3,by rw[hb.cell hB];exact h4,h5.trans hb⟩
theorem sqW{B:Nat}{p:Option Addr}{S1:SS}{w wb:World}(hB:B<w.heap.size)(h:SqS B p S1 w w)(hb:Below w.heap.size w wb):SqS B p S1 w wb:=sqK hB h hb
theorem pF(F G:Nat->Prop)(B K:Nat)(S:SS)(w:World)(h:YF F G w B S)(hI:Xz K S)(hv:S.Yv.length<=4398046511103):
  Calls Tryz.prog 35 #[.pointer (some ⟨B,0,none⟩)] w (VP F G w B S.show YM):=by
 obtain⟨f,hf⟩:=h;have hA:=At.begin hf;obtain⟨p,hpt⟩:=hf.d.text.ptr;have c0:=hf.cell 0;have c1:=hf.cell 1;have c51:=hf.cell 51;have c52:=hf.cell 52;have z51:=hf.free 51;rw[hpt]at c0;rw[hf.d.pos]at c1;rw[hf.d.off]at c51;rw[hf.d.width]at c52;have htx:=hf.d.text;rw[hpt]at htx;have uh:=Zy (fun(w':World) (hb:Below w.heap.size w w')=>Wd.len (htx.keep (G:=F) (Xv.below F hb) (fun _ h=>h)));have HVS:=Zy (show Kr S.text.length S.pos S.off S.width=(XT S.pos S.off S.width,0) by
  have:=hI.tl;have:=hI.p0;have:=hI.p1;have:=hI.o0;have:=hI.wd;unfold Kr XT;rw[if_neg QQ];split
  ·rfl
  ·split<;>rfl)
 have hBl:=hf.vz;have HA:=Zy hA;have HI:=Zy hI;have HV:=Zy hv;clear hf hA hpt htx hI hv;go_enter Tryz.func35,Tryz.ntmps35
 go_upto_region 0 with fail
 go_cut [29] (fun v wx=>v=.int .i64 0/\∃F' f',At F G w F' wx B f' {S with off:=XT S.pos S.off S.width})
 case first=>as_aux_lemma=>
  refine wp_region_held_drew (S:=(fun w'=>w'.cell? ⟨B,0,none⟩=some (.pointer p)/\w'.cell? ⟨B,1,none⟩=some (.int .i64 S.pos)/\w'.cell? ⟨B,52,none⟩=some (.int .i64 S.width))) QX ⟨c0,c1,c52⟩ ?_;intro hSd;refine Ze 0 ⟨some 7,.move (.tmp 0),_,_,_,_⟩ ((.pointer (some ⟨B,0,none⟩))) ?_;simp only[Act.put,Zj,Zk,Zv];refine Ze 1 ⟨some 8,.move (.tmp 0),_,_,_,_⟩ ((.pointer (some ⟨B,0,none⟩))) ?_;simp only[Act.put,Zj,Zk,Zv];refine Ze 2 ⟨some 9,.nilCheck (.tmp 8),_,_,_,_⟩ ((.pointer (some ⟨B,0,none⟩))) ?_;simp only[Act.put,Zj,Zk,Zv];refine Ze 3 ⟨some 10,.fieldAddr 91 (.tmp 9) 0,_,_,_,_⟩ ((.pointer (some ⟨B,0,none⟩))) ?_;simp only[Act.put,Zj,Zk,Zv];refine Ze 4 ⟨some 11,.fieldAddr 83 (.tmp 10) 0,_,_,_,_⟩ ((.pointer (some ⟨B,0,none⟩))) ?_;simp only[Act.put,Zj,Zk,Zv];refine Ze 5 ⟨some 12,.load 81 (.tmp 11),_,_,_,_⟩ ((.agg #[.pointer p])) ?_;simp only[Act.put,Zj,Zk,Zv];refine Ze 7 ⟨some 14,.move (.tmp 0),_,_,_,_⟩ ((.pointer (some ⟨B,0,none⟩))) ?_;simp only[Act.put,Zj,Zk,Zv];refine Ze 8 ⟨some 15,.nilCheck (.tmp 14),_,_,_,_⟩ ((.pointer (some ⟨B,0,none⟩))) ?_;simp only[Act.put,Zj,Zk,Zv];refine Ze 9 ⟨some 16,.fieldAddr 91 (.tmp 15) 0,_,_,_,_⟩ ((.pointer (some ⟨B,0,none⟩))) ?_;simp only[Act.put,Zj,Zk,Zv];refine Ze 10 ⟨some 17,.fieldAddr 83 (.tmp 16) 1,_,_,_,_⟩ ((.pointer (some ⟨B,1,none⟩))) ?_;simp only[Act.put,Zj,Zk,Zv];refine Ze 11 ⟨some 18,.load 3 (.tmp 17),_,_,_,_⟩ ((.int .i64 S.pos)) ?_;simp only[Act.put,Zj,Zk,Zv];refine Ze 12 ⟨some 19,.move (.tmp 0),_,_,_,_⟩ ((.pointer (some ⟨B,0,none⟩))) ?_;simp only[Act.put,Zj,Zk,Zv];refine Ze 13 ⟨some 20,.nilCheck (.tmp 19),_,_,_,_⟩ ((.pointer (some ⟨B,0,none⟩))) ?_;simp only[Act.put,Zj,Zk,Zv];refine Ze 14 ⟨some 21,.fieldAddr 91 (.tmp 20) 13,_,_,_,_⟩ ((.pointer (some ⟨B,51,none⟩))) ?_;simp only[Act.put,Zj,Zk,Zv];refine Ze 16 ⟨some 23,.move (.tmp 0),_,_,_,_⟩ ((.pointer (some ⟨B,0,none⟩))) ?_;simp only[Act.put,Zj,Zk,Zv];refine Ze 17 ⟨some 24,.nilCheck (.tmp 23),_,_,_,_⟩ ((.pointer (some ⟨B,0,none⟩))) ?_;simp only[Act.put,Zj,Zk,Zv];refine Ze 18 ⟨some 25,.fieldAddr 91 (.tmp 24) 14,_,_,_,_⟩ ((.pointer (some ⟨B,52,none⟩))) ?_;simp only[Act.put,Zj,Zk,Zv];refine Ze 19 ⟨some 26,.load 3 (.tmp 25),_,_,_,_⟩ ((.int .i64 S.width)) ?_;simp only[Act.put,Zj,Zk,Zv];refine Zn (rs:=[6,15]) QX QJ ?_;refine ZT (o:=⟨some 13,_,_,_,_,_⟩) rfl (fun K hK=>?_) (ZT (o:=⟨some 22,_,_,_,_,_⟩) rfl (fun K hK=>?_) Zh)
  ·go_simp
   refine(uh.out _ (Zp.drew (ZH _ w))).mono ?_;rintro e w5 ⟨rfl,hb5⟩;have hb5:Below w.heap.size w w5:=Zp.call hb5 (Zp.drew (ZH _ _));have x0:=Zd hb5 _ _ c0;have x1:=Zd hb5 _ _ c1;have x51:=Zd hb5 _ _ c51;have x52:=Zd hb5 _ _ c52;have hA2:=HA.out.JA hb5;have y51:=hA2.hf.free 51;have x0s:(w5.setCell ⟨B,51,none⟩ (.int .i64 (XT S.pos S.off S.width))).cell? ⟨B,0,none⟩=some (.pointer p):=by rw[X5 _ _ _ _ QJ];exact x0
   have x1s:(w5.setCell ⟨B,51,none⟩ (.int .i64 (XT S.pos S.off S.width))).cell? ⟨B,1,none⟩=some (.int .i64 S.pos):=by rw[X5 _ _ _ _ QJ];exact x1
   have QXc:(w5.setCell ⟨B,51,none⟩ (.int .i64 (XT S.pos S.off S.width))).cell? ⟨B,52,none⟩=some (.int .i64 S.width):=by rw[X5 _ _ _ _ QJ];exact x52
   dsimp only;refine hK.out _ _ ⟨x0,x1,x52⟩ (fun hHeld=>?_);clear hK K;refine Zn (rs:=[15]) QX QJ ?_;refine ZT (o:=⟨some 22,_,_,_,_,_⟩) rfl (fun K hK=>?_) Zh;go_simp;refine hK.out _ _ QI (fun hHeld=>?_);exact QGE
  ·go_simp
   refine hK.out _ _ QI (fun hHeld=>?_);clear hK K;refine Zn (rs:=[6]) QX QJ ?_;refine ZT (o:=⟨some 13,_,_,_,_,_⟩) rfl (fun K hK=>?_) Zh;go_simp;refine(uh.out _ (Zp.drew (ZH _ w))).mono ?_;rintro e w5 ⟨rfl,hb5⟩;have hb5:Below w.heap.size w w5:=Zp.call hb5 (Zp.drew (ZH _ _));have x0:=Zd hb5 _ _ c0;have x1:=Zd hb5 _ _ c1;have x51:=Zd hb5 _ _ c51;have x52:=Zd hb5 _ _ c52;have hA2:=HA.out.JA hb5;have y51:=hA2.hf.free 51;have x0s:(w5.setCell ⟨B,51,none⟩ (.int .i64 (XT S.pos S.off S.width))).cell? ⟨B,0,none⟩=some (.pointer p):=by rw[X5 _ _ _ _ QJ];exact x0
   have x1s:(w5.setCell ⟨B,51,none⟩ (.int .i64 (XT S.pos S.off S.width))).cell? ⟨B,1,none⟩=some (.int .i64 S.pos):=by rw[X5 _ _ _ _ QJ];exact x1
   have QXc:(w5.setCell ⟨B,51,none⟩ (.int .i64 (XT S.pos S.off S.width))).cell? ⟨B,52,none⟩=some (.int .i64 S.width):=by rw[X5 _ _ _ _ QJ];exact x52
   dsimp only;refine hK.out _ _ ⟨x0,x1,x52⟩ (fun hHeld=>?_);exact QGE
 case rest=>
  obtain⟨rfl,F2,f2,hA2⟩:=hcut;clear c0 c1 c51 c52 z51 uh HVS;obtain⟨S1,hS1⟩:∃S1:SS,S1={S with off:=XT S.pos S.off S.width}:=⟨_,rfl⟩;rw[<-hS1]at hA2;obtain⟨w2,hw2⟩:∃w2,w2=wc:=⟨_,rfl⟩;subst hw2;have hsh:S.show={S1 with Yv:=S1.Yv++Io S1.row S1.rat.toNat (Uk S1.text S1.off S1.width) (S1.pos-S1.off).toNat,row:=Uk S1.text S1.off S1.width,rat:=S1.pos-S1.off}:=by rw[hS1];rfl
  obtain⟨q,hqt⟩:=hA2.hf.d.text.ptr;have b0:=hA2.hf.cell 0;have b1:=hA2.hf.cell 1;have b51:=hA2.hf.cell 51;have b52:=hA2.hf.cell 52;have htx:=hA2.hf.d.text;rw[hqt]at b0 htx;rw[hA2.hf.d.pos]at b1;rw[hA2.hf.d.off]at b51;rw[hA2.hf.d.width]at b52;have hBw:=hA2.hf.vz;have htl:S1.text.length<=200:=by rw[hS1];exact HI.out.tl
  have hLL:=Zy (fun(w':World) (hb:Below w2.heap.size w2 w')=>Wd.list (htx.keep (G:=F2) (Xv.below F2 hb) (fun _ h=>h)) (show S1.text.length<=10000 from QQ));have hp0:0<=S1.pos:=by rw[hS1];exact HI.out.p0
  have hp1:S1.pos<=S1.text.length:=by rw[hS1];exact HI.out.p1
  have hsc:XT S1.pos S1.off S1.width=S1.off:=by rw[hS1];exact FV _ _ _ HI.out.wd.1
  have hoo:=Dt (p:=S.pos) (off:=S.off) (width:=S.width) ⟨HI.out.p0,by have:=HI.out.p1;have:=HI.out.tl;omega⟩ HI.out.o0 HI.out.wd.1;have ho0:0<=S1.off:=by rw[hS1];exact hoo.1
  have ho1:S1.off<=200:=by rw[hS1];exact hoo.2.1
  have hd0:0<=S1.pos-S1.off:=by rw[hS1];exact hoo.2.2.1
  have hd1:S1.pos-S1.off<S1.width:=by rw[hS1];exact hoo.2.2.2
  have hw0:2<=S1.width:=by rw[hS1];exact HI.out.wd.1
  have hw1:S1.width<=120:=by rw[hS1];exact HI.out.wd.2
  have hVR:=Zy (fun(a:Option Addr) (n c:Nat) (W:World) (hl:Ints W a S1.text) (hn:S1.text.length=n)=>Ik a n c S1.text S1.pos S1.off S1.width W hl hn QQ hp0 QQ hsc ho0 ho1 hw0 hw1);have HS0:=Zy (show SqS B q S1 w2 w2 from⟨b0,b1,b51,b52,ZH _ _⟩);have HA2:=Zy hA2;have HSH:=Zy hsh;have IX:=Zy hS1;clear hqt htx hA2 hsh htl hsc hoo hS1;go_upto_region 1 with fail
  go_cut [2,3] (fun v2 v3 wx=>∃R a n c,v2=.pointer (some ⟨R,0,none⟩)/\v3=.int .i64 0/\RwP S1 w2 wx R a n c)
  case first=>as_aux_lemma=>
   go_region_held3 (fun w'=>w'.cell? ⟨B,0,none⟩=some (.pointer q)/\w'.cell? ⟨B,1,none⟩=some (.int .i64 S1.pos)/\w'.cell? ⟨B,51,none⟩=some (.int .i64 S1.off)/\w'.cell? ⟨B,52,none⟩=some (.int .i64 S1.width)/\Below w2.heap.size w2 w') (first|(with_reducible assumption)|(refine sqW hBw HS0.out ?_;repeat' (first|(with_reducible exact qU)|(with_reducible exact JR)|(with_reducible exact ZH _ _)|(with_reducible refine Zp.alloc ?_)|(with_reducible refine Zp.drew ?_)|(with_reducible refine Zp.set OW ?_))))
    (first|(go_at_call 51;refine(hLL.out _ ?_).mono ?_;(·repeat' (first|(with_reducible exact ZH _ _)|(with_reducible refine Zp.alloc ?_)|(with_reducible refine Zp.drew ?_)));rintro e w5 ⟨v5,rfl,o5,hb5⟩;obtain⟨a5,n5,k5,rfl⟩:=o5.form;have JR:Below w2.heap.size w2 w5:=QG)|(go_at_call 65;refine(hVR.out a5 n5 k5 _ (by first|(with_reducible exact o5.get.2.1)|(with_reducible exact Ints.below o5.get.2.1 (ZR _ _))) o5.get.1).mono ?_;rintro e w6 ⟨v6,rfl,o6,hb6⟩;obtain⟨a6,n6,k6,rfl⟩:=o6.form;have qU:Below w2.heap.size w2 w6:=QDU;have hs5:=JR.size;(first|(refine jq (P:=Za w6 (w2.heap.size) #[.slice none 0 0,.int .i64 0] 51) ?_ ?_;(·repeat' (first|((with_reducible refine Jy ?_);(first|rfl|(simp;done)))|(with_reducible refine Za.Yc hb6 ?_)|(with_reducible refine Za.Yc hb5 ?_)|(with_reducible refine Za.J2 ?_)|(with_reducible refine Za.Yf ?_)));intro hL6;have OW:=ZB w2.heap.size;obtain⟨h60,h61,k60,k61⟩:=hL6.two)|(refine jq (P:=Za w6 (w5.heap.size) #[.slice none 0 0,.int .i64 0] 51) ?_ ?_;(·repeat' (first|((with_reducible refine Jy ?_);(first|rfl|(simp;done)))|(with_reducible refine Za.Yc hb6 ?_)|(with_reducible refine Za.Yc hb5 ?_)|(with_reducible refine Za.J2 ?_)|(with_reducible refine Za.Yf ?_)));intro hL6;have OW:=hs5;obtain⟨h60,h61,k60,k61⟩:=hL6.two)|skip)))
   all_goals
    go_wp2;go_meet
    first
     | exact⟨_,_,_,_,rfl,rfl,QzX hL6 OW QD3 o6 qU⟩
     | exact⟨_,_,_,_,rfl,rfl,QzY (by have:=hs5;simp;try omega) o6 qU⟩
  case rest=>
   obtain⟨R,a,n,c,rfl,rfl,hR⟩:=hcut;obtain⟨w3,hw3⟩:∃w3,w3=wc:=⟨_,rfl⟩;subst hw3;clear b0 b1 b51 b52;have hA3:=HA2.out.below hR.Xw;have hFR:Fx F2 w2 w3 R:=.inr ⟨hR.lo,Xb hR.c0⟩;have hRB:R≠B:=fun e=>hA3.hf.m.nB (e▸hFR)
   obtain⟨ra,rn,rc,hrw⟩:=hA3.hf.d.row.form;have hrow:=hA3.hf.d.row;have c53:=hA3.hf.cell 53;have c54:=hA3.hf.cell 54;rw[hrw]at c53 hrow;have QJU:KS S1.row S1.rat=0:=by rw[IX.out];exact HI.out.re
   have QxN:(S1.row.length:Int)=S1.width:=by rw[IX.out];exact HI.out.rw_
   have QJK:KS (Uk S1.text S1.off S1.width) (S1.pos-S1.off)=0:=by have:=HI.out.show.re;rw[HSH.out]at this;exact this
   have QYd:(Io S1.row S1.rat.toNat (Uk S1.text S1.off S1.width) (S1.pos-S1.off).toNat).length<=363:=by
    have:=(AO HI.out).2;rw[HSH.out]at this;rw[IX.out]at this ⊢;exact this
   have hvl:S1.Yv.length<=4398046511103:=by rw[IX.out];exact HV.out
   have hz1:=Vp QJU;have hz2:=Vp QJK;obtain⟨pa,oD⟩:∃pa:Nat,S1.rat=pa:=⟨S1.rat.toNat,QQ⟩;obtain⟨pb,hpb⟩:∃pb:Nat,S1.pos-S1.off=pb:=⟨(S1.pos-S1.off).toNat,QQ⟩;have r0:=hR.c0;have r1:=hR.c1;rw[hA3.hf.d.rat,oD]at c54;rw[hpb]at r1;have hrn:=hrow.get.1;have hn:=hR.sl.get.1;rw[JN]at hn;obtain rfl:rn=n:=QQ;obtain⟨full,x,y,lo,hi,fi,la,H,hsg⟩:=Ps S1.row (Uk S1.text S1.off S1.width) pa pb rn hrn QQ QQ;have hpt:S1.rat.toNat=pa:=QQ;have QYh:(S1.pos-S1.off).toNat=pb:=QQ;have hwl:=JN S1.text S1.off S1.width;rw[hpt,QYh]at QYd;have HSG:=Zy (LU ra a rn rc c pa pb full x y lo hi fi la S1.row (Uk S1.text S1.off S1.width) w3.drew (hrow.sl.drew) (hR.sl.sl.drew) (by rw[<-oD];exact QJU) (by rw[<-hpb];exact QJK) QQ QQ H);rw[<-hsg]at HSG;have um:=Zy hA3;have HR:=Zy hR;have bJ:=Zy QYd;have bY:=Zy hvl;have HPA:=Zy oD;have HPB:=Zy hpb;have HPT:=Zy hpt;have QyO:=Zy QYh;have hRl:=Xb hR.c0;have Qv9:=hA3.hf.vz;clear hA3 hR hrow hrw QJU QxN QJK QYd hvl hz1 hz2 oD hpb hrn hn hpt QYh hwl hsg H HA2 hLL hVR HS0 hp0 hp1 ho0 ho1 hd0 hd1 hw0 hw1;generalize Qzh:Io S1.row pa (Uk S1.text S1.off S1.width) pb=sg at *;go_upto_region 2 with fail
   go_cut [4] (fun v wx=>∃sa sn sc,v=.slice sa sn sc/\Sl wx (.slice sa sn sc) sg/\Below w3.heap.size w3 wx)
   case first=>as_aux_lemma=>
    go_region_held3 (fun w'=>w'.cell? ⟨B,53,none⟩=some (.slice ra rn rc)/\w'.cell? ⟨B,54,none⟩=some (.int .i64 (pa:Int))/\w'.cell? ⟨R,0,none⟩=some (.slice a rn c)/\w'.cell? ⟨R,1,none⟩=some (.int .i64 (pb:Int))) (first|exact⟨c53,c54,r0,r1⟩|(with_reducible assumption)|exact⟨Zd hb5 _ _ c53,Zd hb5 _ _ c54,Zd hb5 _ _ r0,Zd hb5 _ _ r1⟩)
     (first|(go_at_call 66;refine HSG.out.mono ?_;rintro e w5 ⟨v5,rfl,s5,hb5⟩;obtain⟨a5,n5,k5,rfl⟩:∃a n c,v5=.slice a n c:=(by obtain⟨a,n,c,e,-⟩:=s5;exact⟨a,n,c,e⟩)))
    all_goals
     go_wp2;go_meet;exact⟨_,_,_,rfl,s5,Zp.call hb5 (Zp.drew (ZH _ w3))⟩
   case rest=>
    obtain⟨sa,sn,sc,rfl,hsl,hb4⟩:=hcut;obtain⟨w4,hw4⟩:∃w4,w4=wc:=⟨_,rfl⟩;subst hw4;have UY:=um.out.JA hb4;obtain⟨va,vn,vc,hvv⟩:=UY.hf.m.Yv.form;have hown:=UY.hf.m.Yv;have c57:=UY.hf.cell 57;have z57:=UY.hf.free 57;rw[hvv]at c57 hown;have q0:=Zd hb4 _ _ r0;have q1:=Zd hb4 _ _ r1;have hnR:(Value.slice va vn vc).ownBlock≠some R:=fun e=>(UY.hf.m.J3 R (by rw[hvv];exact e)).1 hFR
    have QVg:R<w4.heap.size:=Zc hRl hb4.size;obtain⟨s1,s2,s3,s4,s5⟩:=hsl.get;have HRW:=Zy ((HR.out.sl.lt.imp (Q:=Fx F2 w2 w3) fun k hk=>.inr ⟨hk.1.1,hk.2⟩).below hb4);have pQ:=Zy UY;have HOW:=Zy hown;have HSS:=Zy s1;have HVV:=Zy hvv;have HS4:=Zy s4;have Mr:=Zy s5;have HNR:=Zy hnR;have QUl:S1.Yv.length+sn<=17592186044416:=by have:=bY.out;have:=bJ.out;omega
    have HVS:=Zy QUl;clear UY hown hsl hb4 r0 r1 c53 c54 s1 s2 s3 s4 s5 hvv hnR QUl;go_wp2_with (at_builtin;refine nX rfl _ _ rfl 0 (.slice va vn vc) S1.Yv sg sa sn sc rfl rfl HOW.out HS4.out HSS.out Mr.out HVS.out (Z4 _) ?_;intro v6 w6 o6 hg6 Qxz;obtain⟨a6,n6,k6,rfl⟩:=o6.form;have qU:Vl w6 B f2:=Za.grown pQ.out.hf.m.blk hg6 (HOW.out.XP pQ.out.hf.m.blk QZ);obtain⟨x57,y57⟩:=qU.at 57;obtain⟨x53,y53⟩:=qU.at 53;obtain⟨x54,y54⟩:=qU.at 54;have g0:w6.cell? ⟨R,0,none⟩=some (.slice a rn c):=(by unfold World.cell? at q0 ⊢;rw[hg6.block R QVg HNR.out.symm];exact q0);have g1:w6.cell? ⟨R,1,none⟩=some (.int .i64 (pb:Int)):=(by unfold World.cell? at q1 ⊢;rw[hg6.block R QVg HNR.out.symm];exact q1);clear qU)
    go_end0
    have UY:=pQ.out;have Wy:=UY.Yv (S':={S1 with Yv:=S1.Yv++sg}) (ZH _ w4) (by rw[HVV.out];exact hg6) o6 (by rw[HVV.out];exact Qxz) {UY.hf.d with} ⟨rfl,rfl⟩;have Qzm:Yn (Fx F2 w2 w3) (w6.setCell ⟨B,57,none⟩ (.slice a6 n6 k6)) (.slice a rn c) (Uk S1.text S1.off S1.width):=
     HRW.out.keep (Same.JB (F:=Fx F2 w2 w3) fun k hk=>by
      have hkB:k≠B:=fun e=>UY.hf.m.nB (e▸hk)
      rw[Zl _ ⟨B,57,none⟩ _ _ hkB];exact hg6.block k (UY.gp k hk) (fun e=>(UY.hf.m.J3 k (by rw[HVV.out];exact e.symm)).1 hk))
    have kC:=Wy.store (S':={S1 with Yv:=S1.Yv++sg,row:=Uk S1.text S1.off S1.width}) 53 (.slice a rn c) {Wy.hf.d with row:=Qzm};have qf:=kC.store (S':={S1 with Yv:=S1.Yv++sg,row:=Uk S1.text S1.off S1.width,rat:=(pb:Int)}) 54 (.int .i64 (pb:Int)) {kC.hf.d with rat:=rfl};exact⟨rfl,by rw[HSH.out,HPT.out,QyO.out,HPB.out,Qzh];exact qf.done⟩
structure Pd (A:List Int):Prop where
 run:VE A=⟨A,[]⟩
 lt:A≠[]->(A.length:Int)<U0 (ix A 0)
 byt:Cx A
theorem FM:Pd []:=⟨rfl,fun h=>absurd rfl h,fun x hx=>by cases hx⟩
theorem QXg(b:Int):U0 b<=4:=by
 unfold U0
 repeat' split
 all_goals omega
theorem QXf(b:Int):U0 b=0\/1<=U0 b:=by
 unfold U0
 repeat' split
 all_goals omega
theorem Pd.len{A:List Int}(h:Pd A):A.length<=3:=by
 by_cases hA:A=[]
 ·subst hA;simp
 ·have:=h.lt hA
  have:=QXg (ix A 0);omega
theorem S9(l:List Int)(b:Int):VE (l++[b])=(VE l).take b:=by simp[VE]
theorem sI{m:MS}{b:Int}(h:Pd m.ah)(hb:0<=b/\b<256):Pd (m.take b).ah:=by
 obtain⟨A,o⟩:=m;dsimp only at h;have hgo:∀(B:List Int) (o2:List Int),Pd B->¬(B≠[]/\VU B b=false)->Pd ((MS.put ⟨B,o2⟩ b).ah):=by
  intro B o2 hB hnf;unfold MS.put;dsimp only;by_cases c1:B=[]/\U0 b=0
  ·rw[if_pos c1];exact FM
  ·rw[if_neg c1]
   by_cases c2:((B.length+1:Nat):Int)=U0 (ix (B++[b]) 0)
   ·rw[if_pos c2];exact FM
   ·rw[if_neg c2]
    refine⟨?_,fun _=>?_,?_⟩
    ·rw[S9,hB.run]
     unfold MS.take;rw[if_neg hnf];unfold MS.put;dsimp only;rw[if_neg c1,if_neg c2]
    ·rw[ZN,List.length_singleton]
     by_cases hB0:B=[]
     ·subst hB0
      have h1:ix ([]++[b]) 0=b:=rfl;rw[h1]at c2 ⊢;have:=QXf b;simp at c2 ⊢;rcases this with h|h
      ·exact absurd ⟨rfl,h⟩ c1
      ·omega
     ·have h1:ix (B++[b]) 0=ix B 0:=YE (Xi.2 hB0)
      rw[h1]at c2 ⊢;have:=hB.lt hB0;omega
    ·intro x hx
     rcases XO.1 hx with hx|hx
     ·exact hB.byt x hx
     ·obtain rfl:=List.mem_singleton.1 hx
      exact hb
 unfold MS.take;by_cases c:A≠[]/\VU A b=false
 ·rw[if_pos c]
  have hbk:MS.brk ⟨A,o⟩=⟨[],o++[65533]⟩:=by unfold MS.brk;rw[if_neg c.1]
  rw[hbk];exact hgo [] _ FM (fun e=>e.1 rfl)
 ·rw[if_neg c]
  exact hgo A o h c
theorem RV:∀(l:List Int) (m:MS),Pd m.ah->Cx l->Pd (l.foldl MS.take m).ah
 | [],m,h,_=>h
 | b::l,m,h,hb=>RV l (m.take b) (sI h (hb b (Zb.2 (.inl rfl)))) (fun x hx=>hb x (Zb.2 (.inr hx)))
theorem QJh{A:List Int}(h:Cx A)(j:Nat):bt (zJ A) j=ix A j:=by
 exact QII
theorem AL(A:List Int):(zJ A).size=A.length:=by
 show(A.map fun x=>UInt8.ofNat x.toNat).toArray.size=_
 simp
theorem Gt{A:List Int}(h:Cx A):qI (zJ A)=A:=by
 refine kU (by rw[JK,AL]) fun i hi=>?_
 rw[JK]at hi;rw[mM hi,QJh h]
theorem mO(s:ByteArray):Cx (qI s):=by
 intro x hx;obtain⟨j,-,rfl⟩:=List.mem_map.1 hx;have:=Uf s j;omega
structure yJ (p:ByteArray):Prop where
 out:(JU p).out=[]
 len:p.size<=3
theorem yJ.next(s:ByteArray):yJ (zJ (JU s).ah):=by
 have h:=RV (qI s) ⟨[],[]⟩ FM (mO s);have hr:JU s=(qI s).foldl MS.take ⟨[],[]⟩:=rfl;rw[<-hr]at h;refine⟨?_,by rw[AL];exact h.len⟩
 show(VE (qI (zJ (JU s).ah))).out=[]
 rw[Gt h.byt,h.run]
theorem yJ.nil:yJ ⟨#[]⟩:=⟨rfl,QZ⟩
end Go.Proofs.YtmdnepkekekncaaGreat
