/- joined, no condition of its own. -/
import Derived.Test.YtmdnepkekekncaaGreatJfJ16
import Derived.Test.YtmdnepkekekncaaGreatJfJ17
set_option linter.unusedVariables false
set_option linter.unusedSimpArgs false
set_option maxRecDepth 100000
set_option maxHeartbeats 12000000
namespace Go.Proofs.YtmdnepkekekncaaGreat
open Go.RowKit
noncomputable def bN(I:In)(s:St)(ar:Bool):Int×St:=
 if(TC I.t I.n ar I.k s.cm.e).2.2≠0 then((TC I.t I.n ar I.k s.cm.e).2.2,s)
 else EY I s (TC I.t I.n ar I.k s.cm.e).1.toNat (TC I.t I.n ar I.k s.cm.e).2.1.toNat false
theorem j6{c:C5}(h:c.c≠0):Ck c=c:=by unfold Ck;rw[if_pos h]
theorem jw{c:C5}(h:c.c=0)(h2:xW c.d=none):Ck c=c:=by unfold Ck;rw[if_neg QDA];unfold Sd;rw[h2]
theorem j5{c:C5}(h:c.c=0):Ck c=Sd c:=by unfold Ck;rw[if_neg QDA]
theorem sP(P:Nat)(us:List Value)(I:In)(hI:Je I)(s:St)(w:World)(h:DI P w us I s)(cm:C5)(hcm:Ck s.cm=cm)(hd:YB cm.d=true)(hf:s.fk=0\/zA s.fk=true):
  Calls Tryz.prog 145 #[.pointer (some ⟨P,0,none⟩)] w (Y5 P I ((BJ I {s with cm:=cm}).1) ((BJ I {s with cm:=cm}).2) w):=by
 have HI:=Zy hI;have htop:=hI.top;have hk1:=hI.k1;have YI:=h.YI;have UE:=h.UE;have c31:=h.c31;have c32:=h.c32;have Ko:=h.Ko;have f29:=h.free 29;have f30:=h.free 30;have f31:=h.free 31;have f32:=h.free 32;have f33:=h.free 33;have qd:=h.lt;have HX:=Zy h;have HD:=Zy hd;have HF:=Zy hf;obtain⟨c,hc⟩:∃c,s.cm=c:=⟨_,rfl⟩;rw[hc]at YI UE c31 c32 Ko hcm;have HC:=Zy hc;have HL:=Zy hcm;clear h hI hcm hc hd hf;go_enter Tryz.func145,Tryz.ntmps145
 go_upto_if 13 with fail
 go_cut [2] (fun v wx=>v=.int .i64 0/\(∃dx,DI P wx dx I {s with cm:=cm})/\Yk P w wx)
 case first=>
  exact QFy
 obtain⟨rfl,⟨Hm,h1⟩,hA1⟩:=hcut;clear YI UE c31 c32 Ko f29 f30 f31 f32 f33;have c32:wc.cell? ⟨P,32,none⟩=some (.int .i64 cm.d):=h1.c32;have bV:=Zy (aF P Hm I HI.out _ wc h1 HF.out);have hd:=HD.out;obtain⟨d,he⟩:∃d,cm.d=d:=⟨_,rfl⟩;rw[he]at c32 hd;have H1:=Zy h1;have hds:d=104\/d=108\/d=48\/d=94\/d=36\/d=124\/d=119\/d=87\/d=98\/d=66\/d=101\/d=69\/d=37\/d=102\/d=70\/d=116\/d=84\/d=59\/d=44:=by
  simpa[YB]using hd
 clear hd he h1;rcases hds with rfl|rfl|rfl|rfl|rfl|rfl|rfl|rfl|rfl|rfl|rfl|rfl|rfl|rfl|rfl|rfl|rfl|rfl|rfl
 all_goals
  go_wp2_with (go_at_call 153;go_loud (refine(bV.out).mono ?_;rintro e w3 ⟨rfl,ky,hA3⟩))
  go_ret;exact⟨rfl,ky,hA1.trans hA3⟩
theorem TB(P:Nat)(us:List Value)(I:In)(hI:Je I)(s:St)(w:World)(h:DI P w us I s)(cm:C5)(hcm:Ck s.cm=cm)(hd:YB cm.d=false)(h0:cm.c=0)(hc0:0<=cm.a)(hc1:cm.a<=999):
  Calls Tryz.prog 145 #[.pointer (some ⟨P,0,none⟩)] w (Y5 P I ((FI I {s with cm:=cm}).1) ((FI I {s with cm:=cm}).2) w):=by
 have HI:=Zy hI;have htop:=hI.top;have hk1:=hI.k1;have YI:=h.YI;have UE:=h.UE;have c31:=h.c31;have c32:=h.c32;have Ko:=h.Ko;have f29:=h.free 29;have f30:=h.free 30;have f31:=h.free 31;have f32:=h.free 32;have f33:=h.free 33;have qd:=h.lt;have HX:=Zy h;have HD:=Zy hd;have H0:=Zy h0;have HB:=Zy (And.intro hc0 hc1);obtain⟨c,hc⟩:∃c,s.cm=c:=⟨_,rfl⟩;rw[hc]at YI UE c31 c32 Ko hcm;have HC:=Zy hc;have HL:=Zy hcm;clear h hI hcm hc hd h0 hc0 hc1;go_enter Tryz.func145,Tryz.ntmps145
 go_upto_if 13 with fail
 go_cut [2] (fun v wx=>v=.int .i64 0/\(∃dx,DI P wx dx I {s with cm:=cm})/\Yk P w wx)
 case first=>
  exact QFy
 obtain⟨rfl,⟨Hm,h1⟩,hA1⟩:=hcut;clear YI UE c31 c32 Ko f29 f30 f31 f32 f33;have QUN:(cm.d==104)=false:=QDY;have QUM:(cm.d==108)=false:=QDZ;have m48:(cm.d==48)=false:=QDQ;have m94:(cm.d==94)=false:=QC9;have m36:(cm.d==36)=false:=QC7;have QUH:(cm.d==124)=false:=QC2;have QUI:(cm.d==119)=false:=QC1;have m87:(cm.d==87)=false:=QCt;have m98:(cm.d==98)=false:=QCr;have m66:(cm.d==66)=false:=ZW;have QUP:(cm.d==101)=false:=ZJ;have m69:(cm.d==69)=false:=ZZ;have m37:(cm.d==37)=false:=ZQ;have QUO:(cm.d==102)=false:=Q9;have m70:(cm.d==70)=false:=Q6;have QUL:(cm.d==116)=false:=Q0;have m84:(cm.d==84)=false:=Qt;have m59:(cm.d==59)=false:=Qs;have m44:(cm.d==44)=false:=Qr;have c32:wc.cell? ⟨P,32,none⟩=some (.int .i64 cm.d):=h1.c32;have c31:wc.cell? ⟨P,31,none⟩=some (.int .i64 cm.c):=h1.c31;rw[H0.out]at c31;have bV:=Zy (Oi P Hm I HI.out _ wc h1 HB.out.1 HB.out.2);clear h1;go_wp2_with (go_at_call 154;go_loud (refine(bV.out).mono ?_;rintro e w3 ⟨rfl,ky,hA3⟩))
 go_ret;exact⟨rfl,ky,hA1.trans hA3⟩
theorem si(P:Nat)(us:List Value)(I:In)(hI:Je I)(s:St)(w:World)(h:DI P w us I s)(cm:C5)(hcm:Ck s.cm=cm)(hd:YB cm.d=false)(h0:cm.c≠0)(he:cm.d=cm.c):
  Calls Tryz.prog 145 #[.pointer (some ⟨P,0,none⟩)] w (Y5 P I ((EY I {s with cm:=cm} 0 I.n true).1) ((EY I {s with cm:=cm} 0 I.n true).2) w):=by
 have HI:=Zy hI;have htop:=hI.top;have hk1:=hI.k1;have YI:=h.YI;have UE:=h.UE;have c31:=h.c31;have c32:=h.c32;have Ko:=h.Ko;have f29:=h.free 29;have f30:=h.free 30;have f31:=h.free 31;have f32:=h.free 32;have f33:=h.free 33;have qd:=h.lt;have HX:=Zy h;have HD:=Zy hd;have H0:=Zy h0;have HE:=Zy he;obtain⟨c,hc⟩:∃c,s.cm=c:=⟨_,rfl⟩;rw[hc]at YI UE c31 c32 Ko hcm;have HC:=Zy hc;have HL:=Zy hcm;clear h hI hcm hc hd h0 he;go_enter Tryz.func145,Tryz.ntmps145
 go_upto_if 13 with fail
 go_cut [2] (fun v wx=>v=.int .i64 0/\(∃dx,DI P wx dx I {s with cm:=cm})/\Yk P w wx)
 case first=>
  exact QFy
 obtain⟨rfl,⟨Hm,h1⟩,hA1⟩:=hcut;clear YI UE c31 c32 Ko f29 f30 f31 f32 f33;have QUN:(cm.d==104)=false:=QDY;have QUM:(cm.d==108)=false:=QDZ;have m48:(cm.d==48)=false:=QDQ;have m94:(cm.d==94)=false:=QC9;have m36:(cm.d==36)=false:=QC7;have QUH:(cm.d==124)=false:=QC2;have QUI:(cm.d==119)=false:=QC1;have m87:(cm.d==87)=false:=QCt;have m98:(cm.d==98)=false:=QCr;have m66:(cm.d==66)=false:=ZW;have QUP:(cm.d==101)=false:=ZJ;have m69:(cm.d==69)=false:=ZZ;have m37:(cm.d==37)=false:=ZQ;have QUO:(cm.d==102)=false:=Q9;have m70:(cm.d==70)=false:=Q6;have QUL:(cm.d==116)=false:=Q0;have m84:(cm.d==84)=false:=Qt;have m59:(cm.d==59)=false:=Qs;have m44:(cm.d==44)=false:=Qr;have c0:=h1.c0;have c32:wc.cell? ⟨P,32,none⟩=some (.int .i64 cm.d):=h1.c32;have c31:wc.cell? ⟨P,31,none⟩=some (.int .i64 cm.d):=by rw[HE.out];exact h1.c31
 have n0:(cm.d==0)=false:=by have:=H0.out;rw[<-HE.out]at this;simpa using this
 have H1:=Zy h1;have bV:=Zy (fun w2 (h2:DI P w2 Hm I {s with cm:=cm})=>VV P 0 I.n true Hm I HI.out _ w2 h2 (Z4 _) (ZB _));clear h1;go_upto_region 28 with fail
 go_region
 all_goals
  go_wp2_with (go_at_call 155;go_loud (refine(bV.out _ H1.out.drew).mono ?_;rintro e w3 ⟨rfl,ky,hA3⟩))
  go_ret;exact⟨rfl,ky,hA1.drew.trans hA3⟩
theorem sS(P:Nat)(us:List Value)(I:In)(hI:Je I)(s:St)(w:World)(h:DI P w us I s)(cm:C5)(hcm:Ck s.cm=cm)(hd:YB cm.d=false)(h0:cm.c≠0)(he:cm.d≠cm.c)(hi:cm.d≠105)(ha:cm.d≠97):
  Calls Tryz.prog 145 #[.pointer (some ⟨P,0,none⟩)] w (Y5 P I (9) ({s with cm:=cm}) w):=by
 have HI:=Zy hI;have htop:=hI.top;have hk1:=hI.k1;have YI:=h.YI;have UE:=h.UE;have c31:=h.c31;have c32:=h.c32;have Ko:=h.Ko;have f29:=h.free 29;have f30:=h.free 30;have f31:=h.free 31;have f32:=h.free 32;have f33:=h.free 33;have qd:=h.lt;have HX:=Zy h;have HD:=Zy hd;have H0:=Zy h0;have HE:=Zy he;have HII:=Zy hi;have HAA:=Zy ha;obtain⟨c,hc⟩:∃c,s.cm=c:=⟨_,rfl⟩;rw[hc]at YI UE c31 c32 Ko hcm;have HC:=Zy hc;have HL:=Zy hcm;clear h hI hcm hc hd h0 he hi ha;go_enter Tryz.func145,Tryz.ntmps145
 go_upto_if 13 with fail
 go_cut [2] (fun v wx=>v=.int .i64 0/\(∃dx,DI P wx dx I {s with cm:=cm})/\Yk P w wx)
 case first=>
  exact QFy
 obtain⟨rfl,⟨Hm,h1⟩,hA1⟩:=hcut;clear YI UE c31 c32 Ko f29 f30 f31 f32 f33;have QUN:(cm.d==104)=false:=QDY;have QUM:(cm.d==108)=false:=QDZ;have m48:(cm.d==48)=false:=QDQ;have m94:(cm.d==94)=false:=QC9;have m36:(cm.d==36)=false:=QC7;have QUH:(cm.d==124)=false:=QC2;have QUI:(cm.d==119)=false:=QC1;have m87:(cm.d==87)=false:=QCt;have m98:(cm.d==98)=false:=QCr;have m66:(cm.d==66)=false:=ZW;have QUP:(cm.d==101)=false:=ZJ;have m69:(cm.d==69)=false:=ZZ;have m37:(cm.d==37)=false:=ZQ;have QUO:(cm.d==102)=false:=Q9;have m70:(cm.d==70)=false:=Q6;have QUL:(cm.d==116)=false:=Q0;have m84:(cm.d==84)=false:=Qt;have m59:(cm.d==59)=false:=Qs;have m44:(cm.d==44)=false:=Qr;have c32:wc.cell? ⟨P,32,none⟩=some (.int .i64 cm.d):=h1.c32;have c31:wc.cell? ⟨P,31,none⟩=some (.int .i64 cm.c):=h1.c31;have n0:(cm.c==0)=false:=QEb;have n1:(cm.d==cm.c)=false:=by have:=HE.out;simpa using this
 have n2:(cm.d !=105)=true:=by have:=HII.out;simpa using this
 have n3:(cm.d !=97)=true:=by have:=HAA.out;simpa using this
 have H1:=Zy h1;clear h1;go_upto_region 28 with fail
 go_region
 all_goals
  go_wp2;go_ret;exact⟨rfl,⟨_,H1.out.drew⟩,hA1.drew⟩
theorem Fa(P:Nat)(us:List Value)(I:In)(hI:Je I)(s:St)(w:World)(h:DI P w us I s)(cm:C5)(hcm:Ck s.cm=cm)(hd:cm.d=97)(h0:cm.c≠0)(he:cm.d≠cm.c):
  Calls Tryz.prog 145 #[.pointer (some ⟨P,0,none⟩)] w (Y5 P I ((bN I {s with cm:=cm} true).1) ((bN I {s with cm:=cm} true).2) w):=by
 have HI:=Zy hI;have htop:=hI.top;have hk1:=hI.k1;have YI:=h.YI;have UE:=h.UE;have c31:=h.c31;have c32:=h.c32;have Ko:=h.Ko;have f29:=h.free 29;have f30:=h.free 30;have f31:=h.free 31;have f32:=h.free 32;have f33:=h.free 33;have qd:=h.lt;have HX:=Zy h;have HD:=Zy hd;have H0:=Zy h0;have HE:=Zy he;obtain⟨c,hc⟩:∃c,s.cm=c:=⟨_,rfl⟩;rw[hc]at YI UE c31 c32 Ko hcm;have HC:=Zy hc;have HL:=Zy hcm;clear h hI hcm hc hd h0 he;go_enter Tryz.func145,Tryz.ntmps145
 go_upto_if 13 with fail
 go_cut [2] (fun v wx=>v=.int .i64 0/\(∃dx,DI P wx dx I {s with cm:=cm})/\Yk P w wx)
 case first=>
  exact QFy
 obtain⟨rfl,⟨Hm,h1⟩,hA1⟩:=hcut;clear YI UE c31 c32 Ko f29 f30 f31 f32 f33;have c0:=h1.c0;have c1:=h1.c1;have Ko:wc.cell? ⟨P,33,none⟩=some (.int .i64 cm.e):=h1.Ko;have c32:wc.cell? ⟨P,32,none⟩=some (.int .i64 97):=by rw[<-HD.out];exact h1.c32
 have c31:wc.cell? ⟨P,31,none⟩=some (.int .i64 cm.c):=h1.c31;have n0:(cm.c==0)=false:=QEb;have n1:(((97:Nat):Int)==cm.c)=false:=QDX;have n2:((97:Int)==cm.c)=false:=QDX;have hT:=h1.sl HI.out;have Tt:=h1.lt;have OF:∀w2,Below wc.heap.size wc w2->Calls Tryz.prog 156 #[.slice I.a I.n I.c,.int .i64 (I.k:Int),.bool true,.int .i64 cm.e] w2 (Hz (DN I.t (Jr I.t I.n I.n).out true I.k cm.e) w2):=fun w2 hb=>qZ I.a I.n I.c I.t I.k true cm.e w2 (hT.below hb) HI.out.len QQ QQ
 have HOF:=Zy OF;have H1:=Zy h1;clear OF hT h1;go_upto_region 28 with fail
 go_cut [63] (fun v wx=>v=.bool false/\wc.drew=wx)
 case first=>
  go_region
  all_goals
   exact QGe
 obtain⟨rfl,rfl⟩:=hcut;replace c0:wc.drew.cell? ⟨P,0,none⟩=some (.slice I.a I.n I.c):=c0;replace c1:wc.drew.cell? ⟨P,1,none⟩=some (.int .i64 (I.k:Int)):=c1;replace c32:wc.drew.cell? ⟨P,32,none⟩=some (.int .i64 97):=c32;replace Ko:wc.drew.cell? ⟨P,33,none⟩=some (.int .i64 cm.e):=Ko;clear c31;go_upto_region 32 with fail
 go_cut [5,6,7] (fun u v e wx=>∃fa ta er,DN I.t (Jr I.t I.n I.n).out true I.k cm.e fa ta er/\u=.int .i64 fa/\v=.int .i64 ta/\e=.int .i64 er/\Below wc.heap.size wc wx)
 case first=>
  go_region_held3 (fun w'=>w'.cell? ⟨P,0,none⟩=some (.slice I.a I.n I.c)/\w'.cell? ⟨P,1,none⟩=some (.int .i64 (I.k:Int))/\w'.cell? ⟨P,32,none⟩=some (.int .i64 97)/\w'.cell? ⟨P,33,none⟩=some (.int .i64 cm.e)) (first|exact⟨c0,c1,c32,Ko⟩|assumption|exact⟨g0,g1,g2,g3⟩) (first|(go_at_call 156;refine(HOF.out _ ((ZH _ _).drew.drew)).mono ?_;rintro e w8 ⟨xa,xb,xe,rfl,hx,XH⟩;have g0:w8.cell? ⟨P,0,none⟩=some (.slice I.a I.n I.c):=(by rw[XH.cell Tt];exact c0);have g1:w8.cell? ⟨P,1,none⟩=some (.int .i64 (I.k:Int)):=(by rw[XH.cell Tt];exact c1);have g2:w8.cell? ⟨P,32,none⟩=some (.int .i64 97):=(by rw[XH.cell Tt];exact c32);have g3:w8.cell? ⟨P,33,none⟩=some (.int .i64 cm.e):=(by rw[XH.cell Tt];exact Ko)))
  all_goals
   exact QLy
 obtain⟨fa,ta,er,ho,rfl,rfl,rfl,hb2⟩:=hcut;have HO:=Zy ho;clear ho;have h2:=H1.out.to hb2;have HA2:=Zy (hA1.trans (Yk.of hb2));have H2:=Zy h2;clear h2 hb2 c0 c1 c32 Ko;by_cases hz:er=0
 ·subst hz
  obtain⟨b1,b2,b3⟩:=HO.out.bound HI.out.len hk1 rfl;rw[HI.out.len]at b3;obtain⟨f,rfl⟩:=Zw b1;obtain⟨g,rfl⟩:=Zw (show 0<=ta from QQ);have bV:=Zy (VV P f g false Hm I HI.out _ wc H2.out QQ QQ);clear b1 b2 b3;go_wp2_with (go_at_call 155;go_loud (refine(bV.out).mono ?_;rintro e w3 ⟨rfl,ky,hA3⟩))
  go_ret;have hob:bN I {s with cm:=cm} true=EY I {s with cm:=cm} f g false:=by unfold bN;rw[BZ HO.out,if_neg QJ];rfl
  rw[hob];exact⟨rfl,ky,HA2.out.trans hA3⟩
 ·have nz:(er !=0)=true:=by simpa using hz
  have HZ:=Zy hz;clear hz;go_wp2;go_ret;have hob:bN I {s with cm:=cm} true=(er,{s with cm:=cm}):=by unfold bN;rw[BZ HO.out,if_pos HZ.out]
  rw[hob];exact⟨rfl,⟨_,H2.out⟩,HA2.out⟩
theorem Cr(P:Nat)(us:List Value)(I:In)(hI:Je I)(s:St)(w:World)(h:DI P w us I s)(cm:C5)(hcm:Ck s.cm=cm)(hd:cm.d=105)(h0:cm.c≠0)(he:cm.d≠cm.c):
  Calls Tryz.prog 145 #[.pointer (some ⟨P,0,none⟩)] w (Y5 P I ((bN I {s with cm:=cm} false).1) ((bN I {s with cm:=cm} false).2) w):=by
 have HI:=Zy hI;have htop:=hI.top;have hk1:=hI.k1;have YI:=h.YI;have UE:=h.UE;have c31:=h.c31;have c32:=h.c32;have Ko:=h.Ko;have f29:=h.free 29;have f30:=h.free 30;have f31:=h.free 31;have f32:=h.free 32;have f33:=h.free 33;have qd:=h.lt;have HX:=Zy h;have HD:=Zy hd;have H0:=Zy h0;have HE:=Zy he;obtain⟨c,hc⟩:∃c,s.cm=c:=⟨_,rfl⟩;rw[hc]at YI UE c31 c32 Ko hcm;have HC:=Zy hc;have HL:=Zy hcm;clear h hI hcm hc hd h0 he;go_enter Tryz.func145,Tryz.ntmps145
 go_upto_if 13 with fail
 go_cut [2] (fun v wx=>v=.int .i64 0/\(∃dx,DI P wx dx I {s with cm:=cm})/\Yk P w wx)
 case first=>
  exact QFy
 obtain⟨rfl,⟨Hm,h1⟩,hA1⟩:=hcut;clear YI UE c31 c32 Ko f29 f30 f31 f32 f33;have c0:=h1.c0;have c1:=h1.c1;have Ko:wc.cell? ⟨P,33,none⟩=some (.int .i64 cm.e):=h1.Ko;have c32:wc.cell? ⟨P,32,none⟩=some (.int .i64 105):=by rw[<-HD.out];exact h1.c32
 have c31:wc.cell? ⟨P,31,none⟩=some (.int .i64 cm.c):=h1.c31;have n0:(cm.c==0)=false:=QEb;have n1:(((105:Nat):Int)==cm.c)=false:=QDX;have n2:((105:Int)==cm.c)=false:=QDX;have hT:=h1.sl HI.out;have Tt:=h1.lt;have OF:∀w2,Below wc.heap.size wc w2->Calls Tryz.prog 156 #[.slice I.a I.n I.c,.int .i64 (I.k:Int),.bool false,.int .i64 cm.e] w2 (Hz (DN I.t (Jr I.t I.n I.n).out false I.k cm.e) w2):=fun w2 hb=>qZ I.a I.n I.c I.t I.k false cm.e w2 (hT.below hb) HI.out.len QQ QQ
 have HOF:=Zy OF;have H1:=Zy h1;clear OF hT h1;go_upto_region 28 with fail
 go_cut [63] (fun v wx=>v=.bool false/\wc.drew=wx)
 case first=>
  go_region
  all_goals
   exact QGe
 obtain⟨rfl,rfl⟩:=hcut;replace c0:wc.drew.cell? ⟨P,0,none⟩=some (.slice I.a I.n I.c):=c0;replace c1:wc.drew.cell? ⟨P,1,none⟩=some (.int .i64 (I.k:Int)):=c1;replace c32:wc.drew.cell? ⟨P,32,none⟩=some (.int .i64 105):=c32;replace Ko:wc.drew.cell? ⟨P,33,none⟩=some (.int .i64 cm.e):=Ko;clear c31;go_upto_region 32 with fail
 go_cut [5,6,7] (fun u v e wx=>∃fa ta er,DN I.t (Jr I.t I.n I.n).out false I.k cm.e fa ta er/\u=.int .i64 fa/\v=.int .i64 ta/\e=.int .i64 er/\Below wc.heap.size wc wx)
 case first=>
  go_region_held3 (fun w'=>w'.cell? ⟨P,0,none⟩=some (.slice I.a I.n I.c)/\w'.cell? ⟨P,1,none⟩=some (.int .i64 (I.k:Int))/\w'.cell? ⟨P,32,none⟩=some (.int .i64 105)/\w'.cell? ⟨P,33,none⟩=some (.int .i64 cm.e)) (first|exact⟨c0,c1,c32,Ko⟩|assumption|exact⟨g0,g1,g2,g3⟩) (first|(go_at_call 156;refine(HOF.out _ ((ZH _ _).drew.drew)).mono ?_;rintro e w8 ⟨xa,xb,xe,rfl,hx,XH⟩;have g0:w8.cell? ⟨P,0,none⟩=some (.slice I.a I.n I.c):=(by rw[XH.cell Tt];exact c0);have g1:w8.cell? ⟨P,1,none⟩=some (.int .i64 (I.k:Int)):=(by rw[XH.cell Tt];exact c1);have g2:w8.cell? ⟨P,32,none⟩=some (.int .i64 105):=(by rw[XH.cell Tt];exact c32);have g3:w8.cell? ⟨P,33,none⟩=some (.int .i64 cm.e):=(by rw[XH.cell Tt];exact Ko)))
  all_goals
   exact QLy
 obtain⟨fa,ta,er,ho,rfl,rfl,rfl,hb2⟩:=hcut;have HO:=Zy ho;clear ho;have h2:=H1.out.to hb2;have HA2:=Zy (hA1.trans (Yk.of hb2));have H2:=Zy h2;clear h2 hb2 c0 c1 c32 Ko;by_cases hz:er=0
 ·subst hz
  obtain⟨b1,b2,b3⟩:=HO.out.bound HI.out.len hk1 rfl;rw[HI.out.len]at b3;obtain⟨f,rfl⟩:=Zw b1;obtain⟨g,rfl⟩:=Zw (show 0<=ta from QQ);have bV:=Zy (VV P f g false Hm I HI.out _ wc H2.out QQ QQ);clear b1 b2 b3;go_wp2_with (go_at_call 155;go_loud (refine(bV.out).mono ?_;rintro e w3 ⟨rfl,ky,hA3⟩))
  go_ret;have hob:bN I {s with cm:=cm} false=EY I {s with cm:=cm} f g false:=by unfold bN;rw[BZ HO.out,if_neg QJ];rfl
  rw[hob];exact⟨rfl,ky,HA2.out.trans hA3⟩
 ·have nz:(er !=0)=true:=by simpa using hz
  have HZ:=Zy hz;clear hz;go_wp2;go_ret;have hob:bN I {s with cm:=cm} false=(er,{s with cm:=cm}):=by unfold bN;rw[BZ HO.out,if_pos HZ.out]
  rw[hob];exact⟨rfl,⟨_,H2.out⟩,HA2.out⟩
theorem mY(P:Nat)(us:List Value)(I:In)(hI:Je I)(s:St)(w:World)(h:DI P w us I s)(hc0:0<=s.cm.a)(hc1:s.cm.a<=999)(hf:s.fk=0\/zA s.fk=true):
  Calls Tryz.prog 145 #[.pointer (some ⟨P,0,none⟩)] w (Y5 P I (Mh I {s with cm:=Ck s.cm}).1 (Mh I {s with cm:=Ck s.cm}).2 w):=by
 have ha:(Ck s.cm).a=s.cm.a:=by
  unfold Ck Sd;split
  ·rfl
  ·split<;>rfl
 obtain⟨cm,hcm⟩:∃cm,Ck s.cm=cm:=⟨_,rfl⟩;rw[hcm]at ha ⊢;cases hm:YB cm.d
 ·have hne:¬(YB cm.d=true):=by simp[hm]
  by_cases h0:cm.c=0
  ·rw[Mh];dsimp only;rw[if_neg hne,if_pos h0]
   exact TB P us I hI s w h cm hcm hm h0 (by rw[ha];exact hc0) (by rw[ha];exact hc1)
  ·by_cases he:cm.d=cm.c
   ·rw[Mh];dsimp only;rw[if_neg hne,if_neg h0,if_pos he]
    exact si P us I hI s w h cm hcm hm h0 he
   ·by_cases hia:cm.d≠105/\cm.d≠97
    ·rw[Mh];dsimp only;rw[if_neg hne,if_neg h0,if_neg he,if_pos hia]
     exact sS P us I hI s w h cm hcm hm h0 he hia.1 hia.2
    ·rw[Mh];dsimp only;rw[if_neg hne,if_neg h0,if_neg he,if_neg hia]
     by_cases h97:cm.d=97
     ·have hb:decide (cm.d=97)=true:=by simpa using h97
      rw[hb];exact Fa P us I hI s w h cm hcm h97 h0 he
     ·have hb:decide (cm.d=97)=false:=by simpa using h97
      have Qxn:cm.d=105:=QQ;rw[hb];exact Cr P us I hI s w h cm hcm Qxn h0 he
 ·rw[Mh];dsimp only;rw[if_pos hm]
  exact sP P us I hI s w h cm hcm hm hf
end Go.Proofs.YtmdnepkekekncaaGreat
