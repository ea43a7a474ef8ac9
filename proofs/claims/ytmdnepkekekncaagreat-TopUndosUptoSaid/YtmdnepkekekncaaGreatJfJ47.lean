/- joined, no condition of its own. -/
import Derived.Test.YtmdnepkekekncaaGreatJfJ46
import Derived.Test.YtmdnepkekekncaaGreatRows
set_option linter.unusedVariables false
set_option linter.unusedSimpArgs false
set_option maxRecDepth 100000
set_option maxHeartbeats 12000000
namespace Go.Proofs.YtmdnepkekekncaaGreat
open Go.RowKit
theorem Yn.ints{P:Nat->Prop}{w:World}{a:Option Addr}{n c:Nat}{xs:List Int}(h:Yn P w (.slice a n c) xs):Ints w a xs:=h.get.2.2.2.1
theorem QYQ{rr:List Value}(h:rr.length=27):∃x0 x1 x2 x3 x4 x5 x6 x7 x8 x9 bD x11 x12 x13 x14 x15 x16 x17 x18 x19 x20 x21 bC bB x24 x25 bA,rr=[x0,x1,x2,x3,x4,x5,x6,x7,x8,x9,bD,x11,x12,x13,x14,x15,x16,x17,x18,x19,x20,x21,bC,bB,x24,x25,bA]:=by
 obtain⟨x0,rr,rfl⟩:∃y t,rr=y::t:=by
  exact QGA
 obtain⟨x1,rr,rfl⟩:∃y t,rr=y::t:=by
  exact QGA
 obtain⟨x2,rr,rfl⟩:∃y t,rr=y::t:=by
  exact QGA
 obtain⟨x3,rr,rfl⟩:∃y t,rr=y::t:=by
  exact QGA
 obtain⟨x4,rr,rfl⟩:∃y t,rr=y::t:=by
  exact QGA
 obtain⟨x5,rr,rfl⟩:∃y t,rr=y::t:=by
  exact QGA
 obtain⟨x6,rr,rfl⟩:∃y t,rr=y::t:=by
  exact QGA
 obtain⟨x7,rr,rfl⟩:∃y t,rr=y::t:=by
  exact QGA
 obtain⟨x8,rr,rfl⟩:∃y t,rr=y::t:=by
  exact QGA
 obtain⟨x9,rr,rfl⟩:∃y t,rr=y::t:=by
  exact QGA
 obtain⟨bD,rr,rfl⟩:∃y t,rr=y::t:=by
  exact QGA
 obtain⟨x11,rr,rfl⟩:∃y t,rr=y::t:=by
  exact QGA
 obtain⟨x12,rr,rfl⟩:∃y t,rr=y::t:=by
  exact QGA
 obtain⟨x13,rr,rfl⟩:∃y t,rr=y::t:=by
  exact QGA
 obtain⟨x14,rr,rfl⟩:∃y t,rr=y::t:=by
  exact QGA
 obtain⟨x15,rr,rfl⟩:∃y t,rr=y::t:=by
  exact QGA
 obtain⟨x16,rr,rfl⟩:∃y t,rr=y::t:=by
  exact QGA
 obtain⟨x17,rr,rfl⟩:∃y t,rr=y::t:=by
  exact QGA
 obtain⟨x18,rr,rfl⟩:∃y t,rr=y::t:=by
  exact QGA
 obtain⟨x19,rr,rfl⟩:∃y t,rr=y::t:=by
  exact QGA
 obtain⟨x20,rr,rfl⟩:∃y t,rr=y::t:=by
  exact QGA
 obtain⟨x21,rr,rfl⟩:∃y t,rr=y::t:=by
  exact QGA
 obtain⟨bC,rr,rfl⟩:∃y t,rr=y::t:=by
  exact QGA
 obtain⟨bB,rr,rfl⟩:∃y t,rr=y::t:=by
  exact QGA
 obtain⟨x24,rr,rfl⟩:∃y t,rr=y::t:=by
  exact QGA
 obtain⟨x25,rr,rfl⟩:∃y t,rr=y::t:=by
  exact QGA
 obtain⟨bA,rr,rfl⟩:∃y t,rr=y::t:=by
  exact QGA
 obtain rfl:rr=[]:=ZM QDA;exact⟨x0,x1,x2,x3,x4,x5,x6,x7,x8,x9,bD,x11,x12,x13,x14,x15,x16,x17,x18,x19,x20,x21,bC,bB,x24,x25,bA,rfl⟩
section
variable {S:SS} {v r lv:Value} {rr:List Value} {n:Nat} {wh:Int}
theorem Vj(hr:rr.length=27)(w:World):(Instr.field 53 (.agg (Xo (y8 S v r lv rr n wh))) 0).run Tryz.prog w=.ok (.agg #[v,.int .i64 S.pos]) w:=by
 exact QHM
theorem TM(hr:rr.length=27)(w:World):(Instr.field 53 (.agg (Xo (y8 S v r lv rr n wh))) 6).run Tryz.prog w=.ok lv w:=by
 exact QHM
end
theorem uU(a:Option Addr)(n c:Nat)(v:Value)(w:World):(Instr.field 42 (.agg #[.slice a n c,v]) 0).run Tryz.prog w=.ok (.slice a n c) w:=QX
theorem MU(W:World)(b:ByteArray)(S:SS)(l:List (Int×List Int))(m:List Int)(h:(S.feed W b).2=0):Ur W [b] S l m=some ((S.feed W b).1,l++(S.feed W b).1.told,m++(S.feed W b).1.Yv):=by
 unfold Ur;rw[if_pos h];rfl
theorem aA(W:World)(b:ByteArray)(S S1:SS)(h:(S.feed W b).2=0)(h1:(S.feed W b).1=S1)(h2:S1.told=[]):Ur W [b] S [] []=some (S1,[],S1.Yv):=by
 rw[MU W b S [] [] h,h1,h2];rfl
theorem Pg:Uu [pU]=9:=QX
theorem Im:wk2.size=1:=QX
theorem Il:wk3.size=2:=QX
theorem QXk:[99,100]=bL ⟨#[99,100]⟩:=QX
theorem QQp:[97,98,32,99,100]=bL ⟨#[97,98,32,99,100]⟩:=QX
theorem IK(W:World):∃S1 S2 S3:SS,(∃Yv,Ur W [pU] (SS.new 5 10) [] []=some (S1,[],Yv))/\S1.text=[99,100]/\(S1.feed W wk2).2=0/\(S1.feed W wk2).1=S2/\S2.told=[]/\S2.text=[97,98,32,99,100]/\
  (S2.feed W wk3).2=0/\(S2.feed W wk3).1=S3/\S3.told=[(2,[99,100])]/\S3.XQ.ls.length=1:=by
 have h1:=QXl W;have h2:=QXi W;have h3:=QXh W;have e1:((SS.new 5 10).feed W pU).1=wS1 W:=by unfold wS1;rfl
 have e2:((wS1 W).feed W wk2).1=wS2 W:=by unfold wS2;rfl
 have e3:((wS2 W).feed W wk3).1=wS3 W:=by unfold wS3;rfl
 generalize wS3 W=S3 at *;generalize wS2 W=S2 at *;generalize wS1 W=S1 at *;obtain⟨g1,g2,g3⟩:=h1;obtain⟨g4,g5,g6⟩:=h2;obtain⟨g7,g8,g9⟩:=h3;exact⟨S1,S2,S3,⟨S1.Yv,aA W pU _ S1 g1 e1 g2⟩,g3,g4,e2,g5,g6,g7,e3,g8,g9⟩
theorem yE(w:World)(s:ByteArray):Strs (w.alloc (.cells #[.string s] 9)) (some ⟨w.heap.size,0,none⟩) [s]:=by
 refine .inr ⟨w.heap.size,0,rfl,fun i hi=>?_⟩;obtain rfl:i=0:=QS;exact(Za.new w #[.string s] 9).cell 0
theorem Hu.hid{S:SS}{w w':World}{e:Ending}(h:Hu S w e w'):∃rs v r lv rr,e=.returned (.agg (Xo rs))/\rs=y8 S v r lv rr S.past.length S.XQ.Zm/\LkR (fun k=>w.heap.size<=k) w' S v r lv rr/\Below w.heap.size w w':=by
 obtain⟨v,r,lv,rr,h1,h2,h3⟩:=h;exact⟨_,v,r,lv,rr,h1,rfl,h2,h3⟩
theorem jR(w:World):Calls Tryz.prog 7 #[] w fun e w'=>e=.returned (.bool true)/\Below w.heap.size w w':=by
 have hb0:=ZR w (.cells #[.string pU] 9);have hS:=yE w pU;have hFD:=Zy (Nl w 5 10 (some ⟨w.heap.size,0,none⟩) 1 1 12 [pU] _ hS rfl (by rw[Pg];omega) QQ QQ);have HB0:=Zy hb0;obtain⟨S1,S2,S3,⟨QuG,hf1⟩,ht1,hz2,hS2,hd2,ht2,hz3,hS3,hd3,hl3⟩:=IK w;clear hS hb0;have HP:=Zy (show _/\_/\_/\_/\_/\_/\_/\_/\_ from⟨ht1,hz2,hS2,hd2,ht2,hz3,hS3,hd3,hl3⟩);have HF1:=Zy hf1;clear hf1 ht1 hz2 hS2 hd2 ht2 hz3 hS3 hd3 hl3;go_enter Tryz.func7,Tryz.ntmps7
 go_wp2_with fail
 refine hFD.out.mono ?_;rintro e w1 (⟨hb1,rfl,hno⟩|⟨hg,B,G,S,l,m,a,n,c,us,a2,n2,c2,hf,rfl,hL,hI,p1,p4,hev,s1,s4,hn4,hwd⟩)
 ·have:=hno ⟨QQ,QQ,QQ,QQ⟩
  rw[HF1.out]at this;cases this
 have e1:=hf.symm.trans HF1.out;simp only[ZL,YP]at e1;obtain⟨rfl,rfl,rfl⟩:=e1;obtain rfl:n=0:=by rw[<-p1,hev.1];rfl
 rw[Pg]at hI;have hI2:=hI.step (W:=w) wk2 (by rw[Im];omega) HP.out.2.1;rw[Im,HP.out.2.2.1,HP.out.2.2.2.1]at hI2;have Ev:=hI2.step (W:=w) wk3 (by rw[Il];omega) HP.out.2.2.2.2.2.1;rw[Il,HP.out.2.2.2.2.2.2.1]at Ev;obtain⟨K,hK,hKl,-,-⟩:=hI.inv;obtain⟨K2,hK2,QxM,-,-⟩:=hI2.inv;obtain⟨K3,hK3,QxL,-,-⟩:=Ev.inv;have og:=Zy hI.pend;have HP2:=Zy hI2.pend;have HK:=Zy hK;have Da:=Zy hK2;have HK3:=Zy hK3;have hq1:K<=268435456:=QQ;have hq2:K2<=268435456:=QQ;have He:=Zy (VX _ w1 B K _ G hL hK);have HL:=Zy hL;clear hf p1 p4 hev s1 s4 hL hI hI2 Ev hK hK2 hK3 hKl QxM QxL hn4 hg hwd HF1;go_wp2_with fail
 refine He.out.mono ?_;intro e w2 h2;obtain⟨rs,v,r,lv,rr,rfl,hrs,hR2,hb2⟩:=h2.hid;obtain⟨a3,n3,c3,rfl⟩:=hR2.t.form;have hfl:∀w,(Instr.field 53 (.agg (Xo rs)) 0).run Tryz.prog w=.ok (.agg #[.slice a3 n3 c3,.int .i64 S.pos]) w:=fun w=>by rw[hrs];exact Vj hR2.lr w
 have hln:=fun w=>uU a3 n3 c3 (.int .i64 S.pos) w
 have Mo:=Zy (Aj a3 n3 c3 S.text ⟨#[99,100]⟩ w2 hR2.t.ints hR2.t.get.1 (HP.out.1.trans QXk) QZ);have HL2:=Zy (HL.out.below hb2);clear h2 hrs hR2 hb2 He;go_wp2_with fail
 refine Mo.out.mono ?_;rintro e w3 ⟨rfl,hb3⟩;have hL3:=HL2.out.below hb3;have EP:=Zy (Rx w _ w3 B K S G wk2 hL3 HK.out og.out hq1);clear hfl hln hb3 hL3 Mo;go_wp2_with fail
 refine EP.out.mono ?_;rintro e w4 ⟨hL4,-,⟨-,a,n,c,us,a2,n2,c2,rfl,p1,p4,hev,-,-⟩|⟨hnz,-⟩⟩
 case inr=>exact absurd HP.out.2.1 hnz
 rw[HP.out.2.2.1]at hL4 hev;obtain rfl:n=0:=by rw[<-p1,hev.1,HP.out.2.2.2.1];rfl
 have He:=Zy (VX _ w4 B K2 _ _ hL4 Da.out);have bq:=Zy hL4;clear p1 p4 hev hL4 EP;go_wp2_with fail
 refine He.out.mono ?_;intro e w5 h5;obtain⟨rs5,v5,r5,lv5,rr5,rfl,hrs,hR2,hb2⟩:=h5.hid;obtain⟨a5,n5,c5,rfl⟩:=hR2.t.form;have hfl:∀w,(Instr.field 53 (.agg (Xo rs5)) 0).run Tryz.prog w=.ok (.agg #[.slice a5 n5 c5,.int .i64 S2.pos]) w:=fun w=>by rw[hrs];exact Vj hR2.lr w
 have hln:=fun w=>uU a5 n5 c5 (.int .i64 S2.pos) w
 have Mo:=Zy (Aj a5 n5 c5 S2.text ⟨#[97,98,32,99,100]⟩ w5 hR2.t.ints hR2.t.get.1 (HP.out.2.2.2.2.1.trans QQp) QZ);have HL5:=Zy (bq.out.below hb2);clear h5 hrs hR2 hb2 He;go_wp2_with fail
 refine Mo.out.mono ?_;rintro e w6 ⟨rfl,hb3⟩;have hL6:=HL5.out.below hb3;have HF3:=Zy (Rx w _ w6 B K2 S2 _ wk3 hL6 Da.out HP2.out hq2);clear hfl hln hb3 hL6 Mo;go_wp2_with fail
 refine HF3.out.mono ?_;rintro e w7 ⟨hL7,-,⟨-,a7,n7,c7,us7,a8,n8,c8,rfl,p1,p4,hev,-,-⟩|⟨hnz,-⟩⟩
 case inr=>exact absurd HP.out.2.2.2.2.2.1 hnz
 rw[HP.out.2.2.2.2.2.2.1]at hL7 hev;rw[HP.out.2.2.2.2.2.2.2.1]at hev;obtain rfl:n7=1:=by rw[<-p1,hev.1];rfl
 obtain⟨b7,o7,rfl,hc7⟩:=p4.at (k:=0) QQ;obtain⟨y0,y1⟩:=hc7 0 QQ;obtain⟨z0,z1⟩:=hev.2 0 QJ;obtain⟨a9,n9,c9,z2⟩:=z1.form;rw[z0]at y0;rw[z2]at y1 z1;simp only[List.getElem_cons_zero,Nat.zero_mul,Yq,XI]at y0 y1 z1;have Mo:=Zy (Aj a9 n9 c9 [99,100] ⟨#[99,100]⟩ w7 z1.ints z1.get.1 QXk QZ);have HL7:=Zy hL7;clear p1 p4 hev hL7 HF3 hc7 z0 z1 z2;go_wp2_with fail
 refine Mo.out.mono ?_;rintro e w8 ⟨rfl,hb3⟩;have aQ:=HL7.out.below hb3;have He:=Zy (VX _ w8 B K3 _ _ aQ HK3.out);have HL8:=Zy aQ;clear hb3 aQ Mo y0 y1;go_wp2_with fail
 refine He.out.mono ?_;intro e w9 h9;obtain⟨rs9,v9,r9,lv9,rr9,rfl,hrs,hR2,hb2⟩:=h9.hid;obtain⟨vs9,⟨a6,n6,c6,rfl,hv1,-⟩,hv2⟩:=hR2.ls;obtain rfl:n6=1:=by rw[<-hv1,hv2.1];exact HP.out.2.2.2.2.2.2.2.2
 have hfl:∀w,(Instr.field 53 (.agg (Xo rs9)) 6).run Tryz.prog w=.ok (.slice a6 1 c6) w:=fun w=>by rw[hrs];exact TM hR2.lr w
 have HL9:=Zy (HL8.out.below hb2);clear h9 hrs hR2 hb2 hv1 hv2;go_wp2;go_ret;exact⟨rfl,HB0.out.trans (HL9.out.Xw.mono HB0.out.size)⟩
def gL(l:List Int):G:=gV l.length (ix l 0) (ix l 1) (ix l 2) (ix l 3)
def Wt(b0 b1:Int):Prop:=U5 b0<=b1/\b1<=Vo b0
theorem Pt{b0 b1:Int}(h:Wt b0 b1):128<=b1/\b1<192:=by
 unfold Wt U5 Vo at h
 repeat' split at h
 all_goals omega
theorem OT{k c:Int}:(uR k c).e=0↔¬c<yo k/\KD c=true:=by
 constructor
 ·exact QJO
 ·intro h;unfold uR;rw[if_neg (by simp[h.1,h.2])]
theorem L9{n:Nat}{b0 b1 b2 b3:Int}(hn:1<=n)(h:b0<128):gV n b0 b1 b2 b3=⟨b0,1,0⟩:=by
 unfold gV;rw[if_neg QQ,if_pos h]
theorem lM{n:Nat}{b0 b1 b2 b3:Int}(hn:2<=n)(h1:194<=b0)(h2:b0<224)(h3:128<=b1/\b1<192):gV n b0 b1 b2 b3=⟨b0 % 32*64+b1 % 64,2,0⟩:=by
 unfold gV;have hc:Vb b1=true:=decide_eq_true h3;rw[if_neg QQ,if_neg QQ,if_neg QQ,if_neg QQ,if_neg (by rw[hc];simp),if_pos h2];unfold uR;rw[if_neg (by rw[show yo 2=128 from rfl];simp[KD];omega)]
theorem Gd{n:Nat}{b0 b1 b2 b3:Int}(hn:3<=n)(h1:224<=b0)(h2:b0<240)(h3:Wt b0 b1)(h4:128<=b2/\b2<192):gV n b0 b1 b2 b3=⟨(b0 % 16*64+b1 % 64)*64+b2 % 64,3,0⟩:=by
 unfold gV;have hs:=Pt h3;have hc:Vb b1=true:=decide_eq_true hs;have hc2:Vb b2=true:=decide_eq_true h4;rw[if_neg QQ,if_neg QQ,if_neg QQ,if_neg QQ,if_neg (by rw[hc];simp),if_neg QQ,if_neg QQ,if_neg (by rw[hc2];simp),if_pos h2];unfold uR;unfold Wt U5 Vo at h3;rw[if_neg (by
  rw[show yo 3=2048 from rfl];simp[KD]
  repeat' split at h3
  all_goals omega)]
theorem OP{n:Nat}{b0 b1 b2 b3:Int}(hn:4<=n)(h1:240<=b0)(h2:b0<245)(h3:Wt b0 b1)(h4:128<=b2/\b2<192)(h5:128<=b3/\b3<192):gV n b0 b1 b2 b3=⟨((b0 % 8*64+b1 % 64)*64+b2 % 64)*64+b3 % 64,4,0⟩:=by
 unfold gV;have hs:=Pt h3;have hc:Vb b1=true:=decide_eq_true hs;have hc2:Vb b2=true:=decide_eq_true h4;have hc3:Vb b3=true:=decide_eq_true h5;rw[if_neg QQ,if_neg QQ,if_neg QQ,if_neg QQ,if_neg (by rw[hc];simp),if_neg QQ,if_neg QQ,if_neg (by rw[hc2];simp),if_neg QQ,if_neg QQ,if_neg (by rw[hc3];simp)];unfold uR;unfold Wt U5 Vo at h3;rw[if_neg (by
  rw[show yo 4=65536 from rfl];simp[KD]
  repeat' split at h3
  all_goals omega)]
theorem QJG{n:Nat}{b0 b1 b2 b3:Int}(h:(gV n b0 b1 b2 b3).e=0)(r1:0<=b1/\b1<256):
  (1<=n/\b0<128)\/(2<=n/\194<=b0/\b0<224/\128<=b1/\b1<192)\/(3<=n/\224<=b0/\b0<240/\Wt b0 b1/\128<=b2/\b2<192)\/(4<=n/\240<=b0/\b0<245/\Wt b0 b1/\(128<=b2/\b2<192)/\128<=b3/\b3<192):=by
 unfold gV at h;by_cases h0:n=0
 ·rw[if_pos h0]at h;simp at h
 rw[if_neg h0]at h;by_cases h1:b0<128
 ·exact .inl ⟨QQ,h1⟩
 rw[if_neg h1]at h;by_cases h2:b0<192\/248<=b0
 ·rw[if_pos h2]at h;simp at h
 rw[if_neg h2]at h;by_cases h3:n=1
 ·rw[if_pos h3]at h;simp at h
 rw[if_neg h3]at h;by_cases h4:Vb b1=false
 ·rw[if_pos h4]at h;simp at h
 rw[if_neg h4]at h;have c1:128<=b1/\b1<192:=by simpa[Vb]using h4
 by_cases h5:b0<224
 ·rw[if_pos h5]at h
  obtain⟨f1,f2⟩:=OT.1 h;rw[show yo 2=128 from rfl]at f1;exact .inr (.inl ⟨QQ,QQ,h5,c1⟩)
 rw[if_neg h5]at h;by_cases h6:n=2
 ·rw[if_pos h6]at h;simp at h
 rw[if_neg h6]at h;by_cases h7:Vb b2=false
 ·rw[if_pos h7]at h;simp at h
 rw[if_neg h7]at h;have c2:128<=b2/\b2<192:=by simpa[Vb]using h7
 by_cases h8:b0<240
 ·rw[if_pos h8]at h
  obtain⟨f1,f2⟩:=OT.1 h;rw[show yo 3=2048 from rfl]at f1;simp[KD]at f2;refine .inr (.inr (.inl ⟨QQ,QQ,h8,?_,c2⟩));unfold Wt U5 Vo
  repeat' split
  all_goals omega
 rw[if_neg h8]at h;by_cases h9:n=3
 ·rw[if_pos h9]at h;simp at h
 rw[if_neg h9]at h;by_cases h10:Vb b3=false
 ·rw[if_pos h10]at h;simp at h
 rw[if_neg h10]at h;have c3:128<=b3/\b3<192:=by simpa[Vb]using h10
 obtain⟨f1,f2⟩:=OT.1 h;rw[show yo 4=65536 from rfl]at f1;simp[KD]at f2;refine .inr (.inr (.inr ⟨QQ,QQ,QQ,?_,c2,c3⟩));unfold Wt U5 Vo
 repeat' split
 all_goals omega
theorem Cx.at{l:List Int}(h:Cx l)(j:Nat):0<=ix l j/\ix l j<256:=by
 by_cases hj:j<l.length
 ·exact h _ (Bz hj)
 ·have:ix l j=0:=by unfold ix;simp[List.getD,Nat.le_of_not_lt hj]
  omega
theorem FC{o:List Int}{b:Int}(h:U0 b=1):MS.take ⟨[],o⟩ b=⟨[],o++[(gS (zJ [b])).c]⟩:=by
 unfold MS.take MS.put;have:ix [b] 0=b:=rfl;simp[h,this]
theorem TU{o:List Int}{b:Int}(h0:U0 b≠0)(h1:U0 b≠1):MS.take ⟨[],o⟩ b=⟨[b],o⟩:=by
 unfold MS.take MS.put;have:ix [b] 0=b:=rfl;simp[h0,this];intro h;exact absurd h.symm h1
theorem yL{A o:List Int}{b:Int}(hA:A≠[])(hf:VU A b=true):MS.take ⟨A,o⟩ b=if((A.length+1:Nat):Int)=U0 (ix A 0)then⟨[],o++[(gS (zJ (A++[b]))).c]⟩else⟨A++[b],o⟩:=by
 unfold MS.take MS.put;have hl:0<A.length:=Xi.2 hA;have h0:ix (A++[b]) 0=ix A 0:=YE hl;simp[hf,hA,h0]
theorem Gs{A:List Int}(h:Cx A)(j:Nat):bt (zJ A) j=ix A j:=by
 exact QII
theorem dw(A:List Int):(zJ A).size=A.length:=by
 show(A.map fun x=>UInt8.ofNat x.toNat).toArray.size=_
 simp
theorem kD{A:List Int}(h:Cx A):gS (zJ A)=gL A:=by
 unfold gS gL;rw[dw,Gs h,Gs h,Gs h,Gs h]
theorem wh1{b:Int}(h:b<128):U0 b=1:=by unfold U0;rw[if_pos h]
theorem wh2{b:Int}(h:194<=b)(h2:b<224):U0 b=2:=by unfold U0;rw[if_neg QQ,if_pos QQ]
theorem wh3{b:Int}(h:224<=b)(h2:b<240):U0 b=3:=by unfold U0;rw[if_neg QQ,if_neg QQ,if_pos QQ]
theorem wh4{b:Int}(h:240<=b)(h2:b<245):U0 b=4:=by unfold U0;rw[if_neg QQ,if_neg QQ,if_neg QQ,if_pos QQ]
theorem QWK{b0 b1:Int}:VU [b0] b1=true↔Wt b0 b1:=by
 unfold VU Wt;rw[if_pos (show[b0].length=1 from rfl),decide_eq_true_iff];rfl
theorem QJN{A:List Int}{b:Int}(h:A.length≠1):VU A b=true↔128<=b/\b<192:=by
 unfold VU;rw[if_neg h,decide_eq_true_iff];omega
theorem QzZ{b0 b1:Int}(h:194<=b0)(h2:b0<224):Wt b0 b1↔128<=b1/\b1<192:=by
 unfold Wt U5 Vo
 repeat' split
 all_goals omega
theorem st1{b0:Int}{o:List Int}(h:194<=b0)(h2:b0<245):MS.take ⟨[],o⟩ b0=⟨[b0],o⟩:=by
 have:U0 b0=2\/U0 b0=3\/U0 b0=4:=by
  by_cases a:b0<224
  ·exact .inl (wh2 h a)
  ·by_cases b:b0<240
   ·exact .inr (.inl (wh3 QQ b))
   ·exact .inr (.inr (wh4 QQ h2))
 exact TU QQ QQ
theorem st2{b0 b1:Int}{o:List Int}(h:224<=b0)(h2:b0<245)(hs:Wt b0 b1):MS.take ⟨[b0],o⟩ b1=⟨[b0,b1],o⟩:=by
 rw[yL QJ (QWK.2 hs),if_neg]
 ·rfl
 ·show¬((2:Nat):Int)=U0 b0
  by_cases b:b0<240
  ·rw[wh3 h b];omega
  ·rw[wh4 QQ h2];omega
theorem st3{b0 b1 b2:Int}{o:List Int}(h:240<=b0)(h2:b0<245)(hs:128<=b2/\b2<192):MS.take ⟨[b0,b1],o⟩ b2=⟨[b0,b1,b2],o⟩:=by
 rw[yL QJ ((QJN QJ).2 hs),if_neg]
 ·rfl
 ·show¬((3:Nat):Int)=U0 b0
  rw[wh4 h h2];omega
theorem fQ(l:List Int)(o:List Int)(hb:Cx l)(h:(gL l).e=0):l.foldl MS.take ⟨[],o⟩=(l.drop (gL l).n.toNat).foldl MS.take ⟨[],o++[(gL l).c]⟩:=by
 have hw:=QJG h (hb.at 1);unfold gL;rcases hw with⟨a,b⟩|⟨a,b,c1,d⟩|⟨a,b,c1,d,e⟩|⟨a,b,c1,d,e,f⟩
 ·rw[L9 a b]
  match l,a with
  | b0::t,_=>
   have h0:ix (b0::t) 0=b0:=rfl;rw[h0]at b ⊢;have hB:Cx [b0]:=fun x hx=>hb x (by simp at hx;simp[hx])
   rw[List.foldl_cons,FC (wh1 b),kD hB];unfold gL;rw[show ix [b0] 0=b0 from rfl,L9 QJ b];rfl
 ·rw[lM a b c1 d]
  match l,a with
  | b0::b1::t,_=>
   have h0:ix (b0::b1::t) 0=b0:=rfl;have h1:ix (b0::b1::t) 1=b1:=rfl;rw[h0]at b c1 ⊢;rw[h1]at d ⊢;have hB:Cx [b0,b1]:=fun x hx=>hb x (by simp at hx;rcases hx with rfl|rfl<;>simp)
   rw[List.foldl_cons,List.foldl_cons,st1 b QQ,yL QJ (QWK.2 ((QzZ b c1).2 d)),if_pos (by show((2:Nat):Int)=U0 b0;rw[wh2 b c1];rfl)];rw[show[b0]++[b1]=[b0,b1]from rfl,kD hB];unfold gL;rw[show ix [b0,b1] 0=b0 from rfl,show ix [b0,b1] 1=b1 from rfl,lM QJ b c1 d];rfl
 ·rw[Gd a b c1 d e]
  match l,a with
  | b0::b1::b2::t,_=>
   have h0:ix (b0::b1::b2::t) 0=b0:=rfl;have h1:ix (b0::b1::b2::t) 1=b1:=rfl;have h2:ix (b0::b1::b2::t) 2=b2:=rfl;rw[h0]at b c1 d ⊢;rw[h1]at d ⊢;rw[h2]at e ⊢;have hB:Cx [b0,b1,b2]:=fun x hx=>hb x (by simp at hx;rcases hx with rfl|rfl|rfl<;>simp)
   rw[List.foldl_cons,List.foldl_cons,List.foldl_cons,st1 QQ QQ,st2 b QQ d,yL QJ ((QJN QJ).2 e),if_pos (by show((3:Nat):Int)=U0 b0;rw[wh3 b c1];rfl)];rw[show[b0,b1]++[b2]=[b0,b1,b2]from rfl,kD hB];unfold gL;rw[show ix [b0,b1,b2] 0=b0 from rfl,show ix [b0,b1,b2] 1=b1 from rfl,show ix [b0,b1,b2] 2=b2 from rfl,Gd QJ b c1 d e];rfl
 ·rw[OP a b c1 d e f]
  match l,a with
  | b0::b1::b2::b3::t,_=>
   have h0:ix (b0::b1::b2::b3::t) 0=b0:=rfl;have h1:ix (b0::b1::b2::b3::t) 1=b1:=rfl;have h2:ix (b0::b1::b2::b3::t) 2=b2:=rfl;have h3:ix (b0::b1::b2::b3::t) 3=b3:=rfl;rw[h0]at b c1 d ⊢;rw[h1]at d ⊢;rw[h2]at e ⊢;rw[h3]at f ⊢;have hB:Cx [b0,b1,b2,b3]:=fun x hx=>hb x (by simp at hx;rcases hx with rfl|rfl|rfl|rfl<;>simp)
   rw[List.foldl_cons,List.foldl_cons,List.foldl_cons,List.foldl_cons,st1 QQ QQ,st2 QQ QQ d,st3 b c1 e,yL QJ ((QJN QJ).2 f),if_pos (by show((4:Nat):Int)=U0 b0;rw[wh4 b c1];rfl)];rw[show[b0,b1,b2]++[b3]=[b0,b1,b2,b3]from rfl,kD hB];unfold gL;rw[show ix [b0,b1,b2,b3] 0=b0 from rfl,show ix [b0,b1,b2,b3] 1=b1 from rfl,show ix [b0,b1,b2,b3] 2=b2 from rfl,show ix [b0,b1,b2,b3] 3=b3 from rfl,OP QJ b c1 d e f];rfl
theorem G6(s t:ByteArray):qI (s++t)=qI s++qI t:=by
 have hsz:(s++t).size=s.size+t.size:=ByteArray.size_append;apply List.ext_getElem
 ·rw[ZN,JK,JK,JK,hsz]
 ·intro i h1 h2
  rw[JK,hsz]at h1;have e1:(qI (s++t))[i]'(by rw[JK,hsz];exact h1)=bt (s++t) i:=by simp[qI]
  rw[e1,<-EF QQ];by_cases hi:i<s.size
  ·rw[List.getElem_append_left (by rw[JK];exact hi)]
   have e2:(qI s)[i]'(by rw[JK];exact hi)=bt s i:=by simp[qI]
   rw[e2,<-EF hi];congr 2
   exact ByteArray.getElem_append_left hi
  ·rw[List.getElem_append_right (by rw[JK];omega)]
   have e2:(qI t)[i-(qI s).length]'(by rw[JK,JK];omega)=bt t (i-s.size):=by simp[qI]
   rw[e2,<-EF QQ];congr 2
   exact ByteArray.getElem_append_right QQ
def Gi(c:Int):List Int:=if c<128 then[c]else if c<2048 then[192+c / 64,128+c % 64]else if c<65536 then[224+c / 4096,128+c / 64 % 64,128+c % 64]else[240+c / 262144,128+c / 4096 % 64,128+c / 64 % 64,128+c % 64]
theorem Rc{c:Int}(h:KD c=true):Utf8.encode c=zJ (Gi c)/\Cx (Gi c)/\Gi c≠[]/\gL (Gi c)=⟨c,(Gi c).length,0⟩:=by
 have hs:(0<=c/\c<55296)\/(57343<c/\c<=1114111):=by simpa[KD]using h
 unfold Gi;by_cases h1:c<128
 ·rw[if_pos h1]
  refine⟨enc1 QQ h1,fun x hx=>?_,QJ,?_⟩
  ·simp at hx;omega
  ·exact L9 QJ h1
 ·rw[if_neg h1]
  by_cases h2:c<2048
  ·rw[if_pos h2]
   refine⟨enc2 QQ h2,fun x hx=>?_,QJ,?_⟩
   ·simp at hx;omega
   ·have:=lM (n:=2) (b0:=192+c / 64) (b1:=128+c % 64) (b2:=0) (b3:=0) QQ QQ QQ QQ
    exact QIQ
  ·rw[if_neg h2]
   by_cases h3:c<65536
   ·rw[if_pos h3]
    refine⟨enc3 QQ h3 h,fun x hx=>?_,QJ,?_⟩
    ·simp at hx;omega
    ·have QYe:Wt (224+c / 4096) (128+c / 64 % 64):=by
      unfold Wt U5 Vo
      repeat' split
      all_goals omega
     have:=Gd (n:=3) (b0:=224+c / 4096) (b1:=128+c / 64 % 64) (b2:=128+c % 64) (b3:=0) QQ QQ QQ QYe QQ;exact QIQ
   ·rw[if_neg h3]
    refine⟨enc4 QQ QQ,fun x hx=>?_,QJ,?_⟩
    ·simp at hx;omega
    ·have QYe:Wt (240+c / 262144) (128+c / 4096 % 64):=by
      unfold Wt U5 Vo
      repeat' split
      all_goals omega
     have:=OP (n:=4) (b0:=240+c / 262144) (b1:=128+c / 4096 % 64) (b2:=128+c / 64 % 64) (b3:=128+c % 64) QQ QQ QQ QYe QQ QQ;exact QIQ
theorem vU{l m:List Int}:qF (l++m)=(qF l&&qF m):=by unfold qF;rw[List.all_append]
theorem P6{c:Int}(h:KD c=true)(o:List Int):(qI (Utf8.encode c)).foldl MS.take ⟨[],o⟩=⟨[],o++[c]⟩:=by
 obtain⟨h1,h2,h3,h4⟩:=Rc h;rw[h1,Gt h2,fQ _ o h2 (by rw[h4]),h4]
 show((Gi c).drop ((Gi c).length:Int).toNat).foldl MS.take ⟨[],o++[c]⟩=_
 rw[XK,List.drop_length];rfl
theorem run_text:∀(n:Nat) (l:List Int) (o:List Int),l.length=n->qF l=true->(qI (runesBytes l)).foldl MS.take ⟨[],o⟩=⟨[],o++l⟩
 | 0,l,o,hn,h=>by
  obtain rfl:l=[]:=ZM hn;rw[List.append_nil];rfl
 | n+1,l,o,hn,h=>by
  rcases List.eq_nil_or_concat l with rfl|⟨L,b,rfl⟩
  ·simp at hn
  ·rw[List.concat_eq_append]at hn h ⊢
   rw[vU,Bool.and_eq_true]at h;have hb:KD b=true:=by simpa[qF]using h.2
   rw[Uv,G6,List.foldl_append,run_text n L o (by simp at hn;omega) h.1,P6 hb,List.append_assoc]
theorem SC(c:Int)(w:World):Calls Tryz.prog 49 #[.int .i64 c] w fun e w'=>e=.returned (.bool (KD c))/\w=w':=by
 exact QIG
theorem pR(a:Option Addr)(n c:Nat)(l:List Int)(w:World)(hx:Ints w a l)(hn:l.length=n)(hl:n<=1048576):Calls Tryz.prog 26 #[.slice a n c] w (QQw l w):=by
 have HN:=Zy hn;clear hn;have hmk:=gm 0 n QQ QQ w;rw[show((0:Nat):Int)=0 from rfl]at hmk;have hown0:=Sw w w.heap.size n (ZB _) QQ;have hb0:=ZR w (.cells (madeCells #[.int .i32 0] n) 21);go_enter Tryz.func26,Tryz.ntmps26
 go_wp2;generalize w.alloc (.cells (madeCells #[.int .i32 0] n) 21)=w1 at *
 go_loopw [12,4] (fun i v wr=>∃k:Nat,i=.int .i64 (k:Int)/\k<=n/\(∀j,j<k->KD (ix l j)=true)/\jB w.heap.size wr v (l.take k)/\Below w.heap.size w wr) (fun i _ _=>n-(intOf i).toNat)
 case atStart=>exact⟨0,rfl,QQ,fun j hj=>QQ,hown0,hb0⟩
 case round=>
  obtain⟨k,rfl,hk,hsc,hown,hb⟩:=hrel;have HSC:=Zy hsc;clear hsc;by_cases hlt:k<n
  ·have i1:(k:Int)<(n:Int):=by omega
   have hkl:k<l.length:=QW;obtain⟨bb,oo,rfl,hc1⟩:=(hx.below hb).at (k:=k) hkl;have e1:=hc1 k hkl;have HX:=Zy hx;have HT:=Zy (Pe hkl);have HS:=Zy (SC (ix l k));have JM:=Zy (fun h=>QYW hkl h);have hlen:(l.take k).length=k:=QEz;obtain⟨z,hz⟩:∃z,KD (ix l k)=z:=⟨_,rfl⟩;have HZ:=Zy hz;rw[hz]at HS;clear hc1 hx hkl;rcases z with _|_
   ·clear hz
    go_wp2_with fail
    refine(HS.out _).mono ?_;rintro e w3 ⟨rfl,rfl⟩;go_wp2;go_ret2
    refine⟨?_,hb⟩;unfold yC dD;rw[JM.out HZ.out];rfl
   ·obtain⟨b1,b2⟩:=QX9 hz
    have hzz:=hb.size;have QyE:=Zy (show∀j,j<k+1->KD (ix l j)=true from fun j hj=>by
     rcases XZ.1 hj with h|rfl
     ·exact HSC.out j h
     ·exact HZ.out)
    clear hz;generalize ix l k=y at *;go_wp2_with fail
    refine(HS.out _).mono ?_;rintro e w3 ⟨rfl,rfl⟩;go_wp2_with (at_builtin;refine QUj rfl _ _ rfl w.heap.size _ (l.take k) y _ rfl rfl (hown.alloc _) ((Za.new _ #[.int .i32 y] 21).one.1) QQ (XJ hzz _) ?_;intro v4 w4 zq BO)
    go_roundw
    case rel=>exact⟨k+1,Qy,QQ,QyE.out,by rw[HT.out];exact zq,(hb.alloc hzz _).grown BO (XJ hzz _) hown.row⟩
    case measure=>simp[intOf];omega
  ·obtain rfl:k=n:=by omega
   have HT:=Zy (show l.take k=l by rw[<-HN.out];exact List.take_length);rw[HT.out]at hown;have hcv:=hown.conv;have xK:=Zy (sw (l:=l) (fun j hj=>HSC.out j (by rw[HN.out]at hj;exact hj)));obtain⟨va,vc,rfl⟩:=hown.form;go_wp2;go_ret2
   refine⟨?_,hb⟩;unfold yC dD;rw[xK.out];rfl
theorem Ay(a:Option Addr)(n c:Nat)(l:List Int)(w:World)(hx:Ints w a l)(hn:l.length=n)(hl:n<=1048576)(b:Bool)(hb:b=qF l)(tb:ByteArray)(htb:tb=yC l):
  Calls Tryz.prog 8 #[.slice a n c] w fun e w'=>e=.returned (.tuple #[.string tb,.bool b])/\Below w.heap.size w w':=by
 obtain⟨te,hte⟩:∃te,te=dD l:=⟨_,rfl⟩;have HT:=Zy (show Calls Tryz.prog 26 #[.slice a n c] w fun e w'=>e=.returned (.tuple #[.string tb,.int .i64 te])/\Below w.heap.size w w' from by rw[htb,hte];exact pR a n c l w hx hn hl);have he:(te==0)=b:=by rw[hte];unfold dD;rw[hb];cases qF l<;>rfl
 clear hx hn hb htb hte;go_enter Tryz.func8,Tryz.ntmps8
 go_wp2_with fail
 refine HT.out.mono ?_;rintro e w2 ⟨rfl,hb2⟩;clear HT;go_wp2;go_ret2
 exact⟨rfl,hb2⟩
end Go.Proofs.YtmdnepkekekncaaGreat
namespace Go.Proofs.YtmdnepkekekncaaGreat
open Go.ChangeShapes Go.WideShapes Go.ChangeAt Go.RowKit
theorem mI{H:Type}(d:DataW H):1<=Rows.uptoBulk d:=by
 cases d with
 | lit l=>cases l<;>simp[Rows.uptoBulk]
 | nil=>simp[Rows.uptoBulk]
 | ptr d=>simp[Rows.uptoBulk]
 | slice elems spare=>simp[Rows.uptoBulk]
 | agg parts=>simp[Rows.uptoBulk]
 | iface t d=>simp[Rows.uptoBulk]
 | map entries=>simp[Rows.uptoBulk]
 | held h=>simp[Rows.uptoBulk]
theorem aI{H:Type}{d:DataW H}{l:List (DataW H)}(h:d∈l):Rows.uptoBulk d<=Rows.uptoBulkAll l:=by
 induction l with
 | nil=>cases h
 | cons x r ih=>
  simp only[Rows.uptoBulkAll];cases Zb.1 h with
  | inl e=>subst e;omega
  | inr e=>have:=ih e;omega
theorem uj{H:Type}(l:List (DataW H)):l.length<=Rows.uptoBulkAll l:=by
 induction l with
 | nil=>simp[Rows.uptoBulkAll]
 | cons x r ih=>have:=mI x;simp only[Rows.uptoBulkAll,Xq];omega
theorem O1{H:Type}(elems spare:List (DataW H)):elems.length+spare.length+1<=Rows.uptoBulk (.slice elems spare):=by
 have h1:=uj elems;have h2:=uj spare;simp only[Rows.uptoBulk];omega
theorem uy{H:Type}(bytes:List UInt8):Rows.uptoBulk (DataW.lit (H:=H) (.string bytes))=bytes.length+1:=by simp[Rows.uptoBulk]
theorem O4{H:Type}{l:List (DataW H)}(hk:Rows.uptoSmall H l=true):Rows.uptoBulkAll l<=1048576:=of_decide_eq_true hk
theorem KZ{H:Type}{l:List (DataW H)}(hk:Rows.uptoSmall H l=true){d:DataW H}(h:d∈l):Rows.uptoBulk d<=1048576:=
 Zf (aI h) (O4 hk)
theorem sM{H:Type}{enc:TypeId×Value->H}{W:World}{fuel:Nat}{cs:List Value}{y:DataW H×List MemPlace}
  (h:DataW.trod enc Tryz.prog W 0 (fun _=>true) true fuel 22 cs=some y):
  ∃v xs,cs=[v]/\Sl W v xs/\(∀x∈xs,qg x)/\xs.length<=Rows.uptoBulk y.1:=by
 rcases open_ints Tryz.underlying22 Tryz.underlying3 QX h with⟨hcs,_⟩|⟨x,l,c,zs,hcs,_,hl,hm,hz,hx,hcell,hwz⟩
 ·exact⟨_,[],hcs,Sl.nil _,QJ,Z4 _⟩
 ·simp only[if_true]at hz
  have hlen:(zs.take l).length=l:=QY;refine⟨_,zs.take l,hcs,⟨some x,l,c,rfl,hlen,hl,QC8,Ints.QYq hcell QQ,QJ⟩,fun y hy=>qg.EJ (hwz y (List.mem_of_mem_take hy)),?_⟩;rw[hx];refine Zf ?_ (Zf (Xh (Zc (ZF _) (O1 _ _))) (ZB _));simp[lits]
theorem Ww{H:Type}{enc:TypeId×Value->H}{W:World}{a:Option Addr}{n c:Nat}{d:DataW H}{p:List MemPlace}
  (h:DataW.Trod enc Tryz.prog W 0 (fun _=>true) true 22 (.slice a n c) d p):
  ∃xs,Ints W a xs/\xs.length=n/\n<=c/\c<=9223372036854775807/\(a=none->n=0)/\(∀x∈xs,qg x)/\n<=Rows.uptoBulk d:=by
 obtain⟨fuel,hf⟩:=h;obtain⟨v',xs,hcs,hs,hr,hb⟩:=sM hf;simp[Value.cells]at hcs;subst hcs;obtain⟨h1,h2,h3,h4,h5⟩:=hs.get;exact⟨xs,h4,h1,h2,h3,h5,hr,h1▸hb⟩
end Go.Proofs.YtmdnepkekekncaaGreat
