/- joined, no condition of its own. -/
import Derived.Test.YtmdcencmiopmmaaGreatJnT
import Derived.Test.YtmdcencmiopmmaaGreatJnJ14
import Derived.Test.YtmdcencmiopmmaaGreatJnJ16
import Derived.Test.YtmdcencmiopmmaaGreatJnJ17
set_option linter.unusedVariables false
set_option linter.unusedSimpArgs false
set_option maxRecDepth 100000
set_option maxHeartbeats 12000000
namespace Go.Proofs.YtmdcencmiopmmaaGreat
open Go.RowKit
noncomputable def Si(I:In)(s:St)(ar:Bool):Int×St:=
 if(Pt I.t I.n ar I.k s.cm.e).2.2≠0 then((Pt I.t I.n ar I.k s.cm.e).2.2,s)
 else Cg I s (Pt I.t I.n ar I.k s.cm.e).1.toNat (Pt I.t I.n ar I.k s.cm.e).2.1.toNat false
theorem jv{c:C5}(h:c.c≠0):BJ c=c:=by unfold BJ;rw[if_pos h]
theorem jA{c:C5}(h:c.c=0)(h2:zH c.d=none):BJ c=c:=by unfold BJ;rw[if_neg QAF];unfold PG;rw[h2]
theorem jk{c:C5}(h:c.c=0):BJ c=PG c:=by unfold BJ;rw[if_neg QAF]
theorem mK(P:Nat)(us:List Value)(I:In)(hI:Je I)(s:St)(w:World)(h:DI P w us I s)(cm:C5)(hcm:BJ s.cm=cm)(hd:Yj cm.d=true)(hf:s.fk=0\/zP s.fk=true):
  Calls Tryz.prog 229 #[.pointer (some ⟨P,0,none⟩)] w (Y1 P I ((vT I {s with cm:=cm}).1) ((vT I {s with cm:=cm}).2) w):=by
 have HI:=Zy hI;have htop:=hI.top;have hk1:=hI.k1;have YE:=h.YE;have UB:=h.UB;have c31:=h.c31;have c32:=h.c32;have Kr:=h.Kr;have f29:=h.free 29;have f30:=h.free 30;have f31:=h.free 31;have f32:=h.free 32;have f33:=h.free 33;have qy:=h.lt;have HX:=Zy h;have HD:=Zy hd;have HF:=Zy hf;obtain⟨c,hc⟩:∃c,s.cm=c:=⟨_,rfl⟩;rw[hc]at YE UB c31 c32 Kr hcm;have HC:=Zy hc;have HL:=Zy hcm;clear h hI hcm hc hd hf;go_enter Tryz.func229,Tryz.ntmps229
 go_upto_if 13 with fail
 go_cut [2] (fun v wx=>v=.int .i64 0/\(∃TI,DI P wx TI I {s with cm:=cm})/\Yx P w wx)
 case first=>
  exact QB4
 obtain⟨rfl,⟨PU,h1⟩,hA1⟩:=hcut;clear YE UB c31 c32 Kr f29 f30 f31 f32 f33;have c32:wc.cell? ⟨P,32,none⟩=some (.int .i64 cm.d):=h1.c32;have SE:=Zy (R3 P PU I HI.out _ wc h1 HF.out);have hd:=HD.out;obtain⟨d,he⟩:∃d,cm.d=d:=⟨_,rfl⟩;rw[he]at c32 hd;have H1:=Zy h1;have hds:d=104\/d=108\/d=48\/d=94\/d=36\/d=124\/d=119\/d=87\/d=98\/d=66\/d=101\/d=69\/d=37\/d=102\/d=70\/d=116\/d=84\/d=59\/d=44:=by
  simpa[Yj]using hd
 clear hd he h1;rcases hds with rfl|rfl|rfl|rfl|rfl|rfl|rfl|rfl|rfl|rfl|rfl|rfl|rfl|rfl|rfl|rfl|rfl|rfl|rfl
 all_goals
  go_wp2_with (go_at_call 248;go_loud (refine(SE.out).mono ?_;rintro e w3 ⟨rfl,jI,hA3⟩))
  go_ret;exact⟨rfl,jI,hA1.trans hA3⟩
theorem Ps(P:Nat)(us:List Value)(I:In)(hI:Je I)(s:St)(w:World)(h:DI P w us I s)(cm:C5)(hcm:BJ s.cm=cm)(hd:Yj cm.d=false)(h0:cm.c=0)(hc0:0<=cm.a)(hc1:cm.a<=999):
  Calls Tryz.prog 229 #[.pointer (some ⟨P,0,none⟩)] w (Y1 P I ((Ej I {s with cm:=cm}).1) ((Ej I {s with cm:=cm}).2) w):=by
 have HI:=Zy hI;have htop:=hI.top;have hk1:=hI.k1;have YE:=h.YE;have UB:=h.UB;have c31:=h.c31;have c32:=h.c32;have Kr:=h.Kr;have f29:=h.free 29;have f30:=h.free 30;have f31:=h.free 31;have f32:=h.free 32;have f33:=h.free 33;have qy:=h.lt;have HX:=Zy h;have HD:=Zy hd;have H0:=Zy h0;have HB:=Zy (And.intro hc0 hc1);obtain⟨c,hc⟩:∃c,s.cm=c:=⟨_,rfl⟩;rw[hc]at YE UB c31 c32 Kr hcm;have HC:=Zy hc;have HL:=Zy hcm;clear h hI hcm hc hd h0 hc0 hc1;go_enter Tryz.func229,Tryz.ntmps229
 go_upto_if 13 with fail
 go_cut [2] (fun v wx=>v=.int .i64 0/\(∃TI,DI P wx TI I {s with cm:=cm})/\Yx P w wx)
 case first=>
  exact QB4
 obtain⟨rfl,⟨PU,h1⟩,hA1⟩:=hcut;clear YE UB c31 c32 Kr f29 f30 f31 f32 f33;have QJJ:(cm.d==104)=false:=Qv3;have QJY:(cm.d==108)=false:=Qv1;have m48:(cm.d==48)=false:=Qv0;have m94:(cm.d==94)=false:=Qvs;have m36:(cm.d==36)=false:=Qvr;have QJQ:(cm.d==124)=false:=Qvm;have QJZ:(cm.d==119)=false:=Qvl;have m87:(cm.d==87)=false:=Qvh;have m98:(cm.d==98)=false:=Qvf;have m66:(cm.d==66)=false:=Zx;have QJU:(cm.d==101)=false:=ZJ;have m69:(cm.d==69)=false:=ZZ;have m37:(cm.d==37)=false:=ZQ;have QJK:(cm.d==102)=false:=Q9;have m70:(cm.d==70)=false:=Q6;have QJX:(cm.d==116)=false:=Q0;have m84:(cm.d==84)=false:=Qt;have m59:(cm.d==59)=false:=Qs;have m44:(cm.d==44)=false:=Qr;have c32:wc.cell? ⟨P,32,none⟩=some (.int .i64 cm.d):=h1.c32;have c31:wc.cell? ⟨P,31,none⟩=some (.int .i64 cm.c):=h1.c31;rw[H0.out]at c31;have SE:=Zy (Ny P PU I HI.out _ wc h1 HB.out.1 HB.out.2);clear h1;go_wp2_with (go_at_call 249;go_loud (refine(SE.out).mono ?_;rintro e w3 ⟨rfl,jI,hA3⟩))
 go_ret;exact⟨rfl,jI,hA1.trans hA3⟩
theorem mV(P:Nat)(us:List Value)(I:In)(hI:Je I)(s:St)(w:World)(h:DI P w us I s)(cm:C5)(hcm:BJ s.cm=cm)(hd:Yj cm.d=false)(h0:cm.c≠0)(he:cm.d=cm.c):
  Calls Tryz.prog 229 #[.pointer (some ⟨P,0,none⟩)] w (Y1 P I ((Cg I {s with cm:=cm} 0 I.n true).1) ((Cg I {s with cm:=cm} 0 I.n true).2) w):=by
 have HI:=Zy hI;have htop:=hI.top;have hk1:=hI.k1;have YE:=h.YE;have UB:=h.UB;have c31:=h.c31;have c32:=h.c32;have Kr:=h.Kr;have f29:=h.free 29;have f30:=h.free 30;have f31:=h.free 31;have f32:=h.free 32;have f33:=h.free 33;have qy:=h.lt;have HX:=Zy h;have HD:=Zy hd;have H0:=Zy h0;have HE:=Zy he;obtain⟨c,hc⟩:∃c,s.cm=c:=⟨_,rfl⟩;rw[hc]at YE UB c31 c32 Kr hcm;have HC:=Zy hc;have HL:=Zy hcm;clear h hI hcm hc hd h0 he;go_enter Tryz.func229,Tryz.ntmps229
 go_upto_if 13 with fail
 go_cut [2] (fun v wx=>v=.int .i64 0/\(∃TI,DI P wx TI I {s with cm:=cm})/\Yx P w wx)
 case first=>
  exact QB4
 obtain⟨rfl,⟨PU,h1⟩,hA1⟩:=hcut;clear YE UB c31 c32 Kr f29 f30 f31 f32 f33;have QJJ:(cm.d==104)=false:=Qv3;have QJY:(cm.d==108)=false:=Qv1;have m48:(cm.d==48)=false:=Qv0;have m94:(cm.d==94)=false:=Qvs;have m36:(cm.d==36)=false:=Qvr;have QJQ:(cm.d==124)=false:=Qvm;have QJZ:(cm.d==119)=false:=Qvl;have m87:(cm.d==87)=false:=Qvh;have m98:(cm.d==98)=false:=Qvf;have m66:(cm.d==66)=false:=Zx;have QJU:(cm.d==101)=false:=ZJ;have m69:(cm.d==69)=false:=ZZ;have m37:(cm.d==37)=false:=ZQ;have QJK:(cm.d==102)=false:=Q9;have m70:(cm.d==70)=false:=Q6;have QJX:(cm.d==116)=false:=Q0;have m84:(cm.d==84)=false:=Qt;have m59:(cm.d==59)=false:=Qs;have m44:(cm.d==44)=false:=Qr;have c0:=h1.c0;have c32:wc.cell? ⟨P,32,none⟩=some (.int .i64 cm.d):=h1.c32;have c31:wc.cell? ⟨P,31,none⟩=some (.int .i64 cm.d):=by rw[HE.out];exact h1.c31
 have n0:(cm.d==0)=false:=by have:=H0.out;rw[<-HE.out]at this;simpa using this
 have H1:=Zy h1;have SE:=Zy (fun w2 (h2:DI P w2 PU I {s with cm:=cm})=>U7 P 0 I.n true PU I HI.out _ w2 h2 (Z0 _) (ZB _));clear h1;go_upto_region 28 with fail
 go_region
 all_goals
  go_wp2_with (go_at_call 250;go_loud (refine(SE.out _ H1.out.drew).mono ?_;rintro e w3 ⟨rfl,jI,hA3⟩))
  go_ret;exact⟨rfl,jI,hA1.drew.trans hA3⟩
theorem mU(P:Nat)(us:List Value)(I:In)(hI:Je I)(s:St)(w:World)(h:DI P w us I s)(cm:C5)(hcm:BJ s.cm=cm)(hd:Yj cm.d=false)(h0:cm.c≠0)(he:cm.d≠cm.c)(hi:cm.d≠105)(ha:cm.d≠97):
  Calls Tryz.prog 229 #[.pointer (some ⟨P,0,none⟩)] w (Y1 P I (9) ({s with cm:=cm}) w):=by
 have HI:=Zy hI;have htop:=hI.top;have hk1:=hI.k1;have YE:=h.YE;have UB:=h.UB;have c31:=h.c31;have c32:=h.c32;have Kr:=h.Kr;have f29:=h.free 29;have f30:=h.free 30;have f31:=h.free 31;have f32:=h.free 32;have f33:=h.free 33;have qy:=h.lt;have HX:=Zy h;have HD:=Zy hd;have H0:=Zy h0;have HE:=Zy he;have HII:=Zy hi;have HAA:=Zy ha;obtain⟨c,hc⟩:∃c,s.cm=c:=⟨_,rfl⟩;rw[hc]at YE UB c31 c32 Kr hcm;have HC:=Zy hc;have HL:=Zy hcm;clear h hI hcm hc hd h0 he hi ha;go_enter Tryz.func229,Tryz.ntmps229
 go_upto_if 13 with fail
 go_cut [2] (fun v wx=>v=.int .i64 0/\(∃TI,DI P wx TI I {s with cm:=cm})/\Yx P w wx)
 case first=>
  exact QB4
 obtain⟨rfl,⟨PU,h1⟩,hA1⟩:=hcut;clear YE UB c31 c32 Kr f29 f30 f31 f32 f33;have QJJ:(cm.d==104)=false:=Qv3;have QJY:(cm.d==108)=false:=Qv1;have m48:(cm.d==48)=false:=Qv0;have m94:(cm.d==94)=false:=Qvs;have m36:(cm.d==36)=false:=Qvr;have QJQ:(cm.d==124)=false:=Qvm;have QJZ:(cm.d==119)=false:=Qvl;have m87:(cm.d==87)=false:=Qvh;have m98:(cm.d==98)=false:=Qvf;have m66:(cm.d==66)=false:=Zx;have QJU:(cm.d==101)=false:=ZJ;have m69:(cm.d==69)=false:=ZZ;have m37:(cm.d==37)=false:=ZQ;have QJK:(cm.d==102)=false:=Q9;have m70:(cm.d==70)=false:=Q6;have QJX:(cm.d==116)=false:=Q0;have m84:(cm.d==84)=false:=Qt;have m59:(cm.d==59)=false:=Qs;have m44:(cm.d==44)=false:=Qr;have c32:wc.cell? ⟨P,32,none⟩=some (.int .i64 cm.d):=h1.c32;have c31:wc.cell? ⟨P,31,none⟩=some (.int .i64 cm.c):=h1.c31;have n0:(cm.c==0)=false:=QBF;have n1:(cm.d==cm.c)=false:=by have:=HE.out;simpa using this
 have n2:(cm.d !=105)=true:=by have:=HII.out;simpa using this
 have n3:(cm.d !=97)=true:=by have:=HAA.out;simpa using this
 have H1:=Zy h1;clear h1;go_upto_region 28 with fail
 go_region
 all_goals
  go_wp2;go_ret;exact⟨rfl,⟨_,H1.out.drew⟩,hA1.drew⟩
theorem EF(P:Nat)(us:List Value)(I:In)(hI:Je I)(s:St)(w:World)(h:DI P w us I s)(cm:C5)(hcm:BJ s.cm=cm)(hd:cm.d=97)(h0:cm.c≠0)(he:cm.d≠cm.c):
  Calls Tryz.prog 229 #[.pointer (some ⟨P,0,none⟩)] w (Y1 P I ((Si I {s with cm:=cm} true).1) ((Si I {s with cm:=cm} true).2) w):=by
 have HI:=Zy hI;have htop:=hI.top;have hk1:=hI.k1;have YE:=h.YE;have UB:=h.UB;have c31:=h.c31;have c32:=h.c32;have Kr:=h.Kr;have f29:=h.free 29;have f30:=h.free 30;have f31:=h.free 31;have f32:=h.free 32;have f33:=h.free 33;have qy:=h.lt;have HX:=Zy h;have HD:=Zy hd;have H0:=Zy h0;have HE:=Zy he;obtain⟨c,hc⟩:∃c,s.cm=c:=⟨_,rfl⟩;rw[hc]at YE UB c31 c32 Kr hcm;have HC:=Zy hc;have HL:=Zy hcm;clear h hI hcm hc hd h0 he;go_enter Tryz.func229,Tryz.ntmps229
 go_upto_if 13 with fail
 go_cut [2] (fun v wx=>v=.int .i64 0/\(∃TI,DI P wx TI I {s with cm:=cm})/\Yx P w wx)
 case first=>
  exact QB4
 obtain⟨rfl,⟨PU,h1⟩,hA1⟩:=hcut;clear YE UB c31 c32 Kr f29 f30 f31 f32 f33;have c0:=h1.c0;have c1:=h1.c1;have Kr:wc.cell? ⟨P,33,none⟩=some (.int .i64 cm.e):=h1.Kr;have c32:wc.cell? ⟨P,32,none⟩=some (.int .i64 97):=by rw[<-HD.out];exact h1.c32
 have c31:wc.cell? ⟨P,31,none⟩=some (.int .i64 cm.c):=h1.c31;have n0:(cm.c==0)=false:=QBF;have n1:(((97:Nat):Int)==cm.c)=false:=Qv2;have n2:((97:Int)==cm.c)=false:=Qv2;have hT:=h1.sl HI.out;have RN:=h1.lt;have OF:∀w2,Below wc.heap.size wc w2->Calls Tryz.prog 251 #[.slice I.a I.n I.c,.int .i64 (I.k:Int),.bool true,.int .i64 cm.e] w2 (FI (CV I.t (Jr I.t I.n I.n).out true I.k cm.e) w2):=fun w2 hb=>WN I.a I.n I.c I.t I.k true cm.e w2 (hT.below hb) HI.out.len QQ QQ
 have HOF:=Zy OF;have H1:=Zy h1;clear OF hT h1;go_upto_region 28 with fail
 go_cut [63] (fun v wx=>v=.bool false/\wc.drew=wx)
 case first=>
  go_region
  all_goals
   exact QDL
 obtain⟨rfl,rfl⟩:=hcut;replace c0:wc.drew.cell? ⟨P,0,none⟩=some (.slice I.a I.n I.c):=c0;replace c1:wc.drew.cell? ⟨P,1,none⟩=some (.int .i64 (I.k:Int)):=c1;replace c32:wc.drew.cell? ⟨P,32,none⟩=some (.int .i64 97):=c32;replace Kr:wc.drew.cell? ⟨P,33,none⟩=some (.int .i64 cm.e):=Kr;clear c31;go_upto_region 32 with fail
 go_cut [5,6,7] (fun u v e wx=>∃fa ta er,CV I.t (Jr I.t I.n I.n).out true I.k cm.e fa ta er/\u=.int .i64 fa/\v=.int .i64 ta/\e=.int .i64 er/\Below wc.heap.size wc wx)
 case first=>
  go_region_held3 (fun w'=>w'.cell? ⟨P,0,none⟩=some (.slice I.a I.n I.c)/\w'.cell? ⟨P,1,none⟩=some (.int .i64 (I.k:Int))/\w'.cell? ⟨P,32,none⟩=some (.int .i64 97)/\w'.cell? ⟨P,33,none⟩=some (.int .i64 cm.e)) (first|exact⟨c0,c1,c32,Kr⟩|assumption|exact⟨g0,g1,g2,g3⟩) (first|(go_at_call 251;refine(HOF.out _ ((ZH _ _).drew.drew)).mono ?_;rintro e w8 ⟨xa,xb,xe,rfl,hx,XF⟩;have g0:w8.cell? ⟨P,0,none⟩=some (.slice I.a I.n I.c):=(by rw[XF.cell RN];exact c0);have g1:w8.cell? ⟨P,1,none⟩=some (.int .i64 (I.k:Int)):=(by rw[XF.cell RN];exact c1);have g2:w8.cell? ⟨P,32,none⟩=some (.int .i64 97):=(by rw[XF.cell RN];exact c32);have g3:w8.cell? ⟨P,33,none⟩=some (.int .i64 cm.e):=(by rw[XF.cell RN];exact Kr)))
  all_goals
   exact QFs
 obtain⟨fa,ta,er,ho,rfl,rfl,rfl,hb2⟩:=hcut;have HO:=Zy ho;clear ho;have h2:=H1.out.to hb2;have HA2:=Zy (hA1.trans (Yx.of hb2));have H2:=Zy h2;clear h2 hb2 c0 c1 c32 Kr;by_cases hz:er=0
 ·subst hz
  obtain⟨b1,b2,b3⟩:=HO.out.bound HI.out.len hk1 rfl;rw[HI.out.len]at b3;obtain⟨f,rfl⟩:=Z9 b1;obtain⟨g,rfl⟩:=Z9 (show 0<=ta from QQ);have SE:=Zy (U7 P f g false PU I HI.out _ wc H2.out QQ QQ);clear b1 b2 b3;go_wp2_with (go_at_call 250;go_loud (refine(SE.out).mono ?_;rintro e w3 ⟨rfl,jI,hA3⟩))
  go_ret;have hob:Si I {s with cm:=cm} true=Cg I {s with cm:=cm} f g false:=by unfold Si;rw[vR HO.out,if_neg QJ];rfl
  rw[hob];exact⟨rfl,jI,HA2.out.trans hA3⟩
 ·have nz:(er !=0)=true:=by simpa using hz
  have HZ:=Zy hz;clear hz;go_wp2;go_ret;have hob:Si I {s with cm:=cm} true=(er,{s with cm:=cm}):=by unfold Si;rw[vR HO.out,if_pos HZ.out]
  rw[hob];exact⟨rfl,⟨_,H2.out⟩,HA2.out⟩
theorem BO(P:Nat)(us:List Value)(I:In)(hI:Je I)(s:St)(w:World)(h:DI P w us I s)(cm:C5)(hcm:BJ s.cm=cm)(hd:cm.d=105)(h0:cm.c≠0)(he:cm.d≠cm.c):
  Calls Tryz.prog 229 #[.pointer (some ⟨P,0,none⟩)] w (Y1 P I ((Si I {s with cm:=cm} false).1) ((Si I {s with cm:=cm} false).2) w):=by
 have HI:=Zy hI;have htop:=hI.top;have hk1:=hI.k1;have YE:=h.YE;have UB:=h.UB;have c31:=h.c31;have c32:=h.c32;have Kr:=h.Kr;have f29:=h.free 29;have f30:=h.free 30;have f31:=h.free 31;have f32:=h.free 32;have f33:=h.free 33;have qy:=h.lt;have HX:=Zy h;have HD:=Zy hd;have H0:=Zy h0;have HE:=Zy he;obtain⟨c,hc⟩:∃c,s.cm=c:=⟨_,rfl⟩;rw[hc]at YE UB c31 c32 Kr hcm;have HC:=Zy hc;have HL:=Zy hcm;clear h hI hcm hc hd h0 he;go_enter Tryz.func229,Tryz.ntmps229
 go_upto_if 13 with fail
 go_cut [2] (fun v wx=>v=.int .i64 0/\(∃TI,DI P wx TI I {s with cm:=cm})/\Yx P w wx)
 case first=>
  exact QB4
 obtain⟨rfl,⟨PU,h1⟩,hA1⟩:=hcut;clear YE UB c31 c32 Kr f29 f30 f31 f32 f33;have c0:=h1.c0;have c1:=h1.c1;have Kr:wc.cell? ⟨P,33,none⟩=some (.int .i64 cm.e):=h1.Kr;have c32:wc.cell? ⟨P,32,none⟩=some (.int .i64 105):=by rw[<-HD.out];exact h1.c32
 have c31:wc.cell? ⟨P,31,none⟩=some (.int .i64 cm.c):=h1.c31;have n0:(cm.c==0)=false:=QBF;have n1:(((105:Nat):Int)==cm.c)=false:=Qv2;have n2:((105:Int)==cm.c)=false:=Qv2;have hT:=h1.sl HI.out;have RN:=h1.lt;have OF:∀w2,Below wc.heap.size wc w2->Calls Tryz.prog 251 #[.slice I.a I.n I.c,.int .i64 (I.k:Int),.bool false,.int .i64 cm.e] w2 (FI (CV I.t (Jr I.t I.n I.n).out false I.k cm.e) w2):=fun w2 hb=>WN I.a I.n I.c I.t I.k false cm.e w2 (hT.below hb) HI.out.len QQ QQ
 have HOF:=Zy OF;have H1:=Zy h1;clear OF hT h1;go_upto_region 28 with fail
 go_cut [63] (fun v wx=>v=.bool false/\wc.drew=wx)
 case first=>
  go_region
  all_goals
   exact QDL
 obtain⟨rfl,rfl⟩:=hcut;replace c0:wc.drew.cell? ⟨P,0,none⟩=some (.slice I.a I.n I.c):=c0;replace c1:wc.drew.cell? ⟨P,1,none⟩=some (.int .i64 (I.k:Int)):=c1;replace c32:wc.drew.cell? ⟨P,32,none⟩=some (.int .i64 105):=c32;replace Kr:wc.drew.cell? ⟨P,33,none⟩=some (.int .i64 cm.e):=Kr;clear c31;go_upto_region 32 with fail
 go_cut [5,6,7] (fun u v e wx=>∃fa ta er,CV I.t (Jr I.t I.n I.n).out false I.k cm.e fa ta er/\u=.int .i64 fa/\v=.int .i64 ta/\e=.int .i64 er/\Below wc.heap.size wc wx)
 case first=>
  go_region_held3 (fun w'=>w'.cell? ⟨P,0,none⟩=some (.slice I.a I.n I.c)/\w'.cell? ⟨P,1,none⟩=some (.int .i64 (I.k:Int))/\w'.cell? ⟨P,32,none⟩=some (.int .i64 105)/\w'.cell? ⟨P,33,none⟩=some (.int .i64 cm.e)) (first|exact⟨c0,c1,c32,Kr⟩|assumption|exact⟨g0,g1,g2,g3⟩) (first|(go_at_call 251;refine(HOF.out _ ((ZH _ _).drew.drew)).mono ?_;rintro e w8 ⟨xa,xb,xe,rfl,hx,XF⟩;have g0:w8.cell? ⟨P,0,none⟩=some (.slice I.a I.n I.c):=(by rw[XF.cell RN];exact c0);have g1:w8.cell? ⟨P,1,none⟩=some (.int .i64 (I.k:Int)):=(by rw[XF.cell RN];exact c1);have g2:w8.cell? ⟨P,32,none⟩=some (.int .i64 105):=(by rw[XF.cell RN];exact c32);have g3:w8.cell? ⟨P,33,none⟩=some (.int .i64 cm.e):=(by rw[XF.cell RN];exact Kr)))
  all_goals
   exact QFs
 obtain⟨fa,ta,er,ho,rfl,rfl,rfl,hb2⟩:=hcut;have HO:=Zy ho;clear ho;have h2:=H1.out.to hb2;have HA2:=Zy (hA1.trans (Yx.of hb2));have H2:=Zy h2;clear h2 hb2 c0 c1 c32 Kr;by_cases hz:er=0
 ·subst hz
  obtain⟨b1,b2,b3⟩:=HO.out.bound HI.out.len hk1 rfl;rw[HI.out.len]at b3;obtain⟨f,rfl⟩:=Z9 b1;obtain⟨g,rfl⟩:=Z9 (show 0<=ta from QQ);have SE:=Zy (U7 P f g false PU I HI.out _ wc H2.out QQ QQ);clear b1 b2 b3;go_wp2_with (go_at_call 250;go_loud (refine(SE.out).mono ?_;rintro e w3 ⟨rfl,jI,hA3⟩))
  go_ret;have hob:Si I {s with cm:=cm} false=Cg I {s with cm:=cm} f g false:=by unfold Si;rw[vR HO.out,if_neg QJ];rfl
  rw[hob];exact⟨rfl,jI,HA2.out.trans hA3⟩
 ·have nz:(er !=0)=true:=by simpa using hz
  have HZ:=Zy hz;clear hz;go_wp2;go_ret;have hob:Si I {s with cm:=cm} false=(er,{s with cm:=cm}):=by unfold Si;rw[vR HO.out,if_pos HZ.out]
  rw[hob];exact⟨rfl,⟨_,H2.out⟩,HA2.out⟩
theorem eY(P:Nat)(us:List Value)(I:In)(hI:Je I)(s:St)(w:World)(h:DI P w us I s)(hc0:0<=s.cm.a)(hc1:s.cm.a<=999)(hf:s.fk=0\/zP s.fk=true):
  Calls Tryz.prog 229 #[.pointer (some ⟨P,0,none⟩)] w (Y1 P I (Lx I {s with cm:=BJ s.cm}).1 (Lx I {s with cm:=BJ s.cm}).2 w):=by
 have ha:(BJ s.cm).a=s.cm.a:=by
  unfold BJ PG;split
  ·rfl
  ·split<;>rfl
 obtain⟨cm,hcm⟩:∃cm,BJ s.cm=cm:=⟨_,rfl⟩;rw[hcm]at ha ⊢;cases hm:Yj cm.d
 ·have hne:¬(Yj cm.d=true):=by simp[hm]
  by_cases h0:cm.c=0
  ·rw[Lx];dsimp only;rw[if_neg hne,if_pos h0]
   exact Ps P us I hI s w h cm hcm hm h0 (by rw[ha];exact hc0) (by rw[ha];exact hc1)
  ·by_cases he:cm.d=cm.c
   ·rw[Lx];dsimp only;rw[if_neg hne,if_neg h0,if_pos he]
    exact mV P us I hI s w h cm hcm hm h0 he
   ·by_cases hia:cm.d≠105/\cm.d≠97
    ·rw[Lx];dsimp only;rw[if_neg hne,if_neg h0,if_neg he,if_pos hia]
     exact mU P us I hI s w h cm hcm hm h0 he hia.1 hia.2
    ·rw[Lx];dsimp only;rw[if_neg hne,if_neg h0,if_neg he,if_neg hia]
     by_cases h97:cm.d=97
     ·have hb:decide (cm.d=97)=true:=by simpa using h97
      rw[hb];exact EF P us I hI s w h cm hcm h97 h0 he
     ·have hb:decide (cm.d=97)=false:=by simpa using h97
      have QWw:cm.d=105:=QQ;rw[hb];exact BO P us I hI s w h cm hcm QWw h0 he
 ·rw[Lx];dsimp only;rw[if_pos hm]
  exact mK P us I hI s w h cm hcm hm hf
end Go.Proofs.YtmdcencmiopmmaaGreat
