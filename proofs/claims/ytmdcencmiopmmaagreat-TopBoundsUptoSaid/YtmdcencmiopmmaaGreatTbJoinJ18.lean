/- LiftTopBounds: joined, no condition of its own. -/
import Derived.Test.YtmdcencmiopmmaaGreatTbJoinT
import Derived.Test.YtmdcencmiopmmaaGreatTbJoinJ14
import Derived.Test.YtmdcencmiopmmaaGreatTbJoinJ16
import Derived.Test.YtmdcencmiopmmaaGreatTbJoinJ17
set_option linter.unusedVariables false
set_option linter.unusedSimpArgs false
set_option maxRecDepth 100000
set_option maxHeartbeats 12000000
namespace Go.Proofs.YtmdcencmiopmmaaGreat
open Go.RowKit
noncomputable def O7(I:In)(s:St)(ar:Bool):Int×St:=
 if(NC I.t I.n ar I.k s.cm.e).2.2≠0 then((NC I.t I.n ar I.k s.cm.e).2.2,s)
 else Aq I s (NC I.t I.n ar I.k s.cm.e).1.toNat (NC I.t I.n ar I.k s.cm.e).2.1.toNat false
theorem zS{c:C5}(h:c.c≠0):uu c=c:=by unfold uu;rw[if_pos h]
theorem zT{c:C5}(h:c.c=0)(h2:WB c.d=none):uu c=c:=by unfold uu;rw[if_neg (by simpa using h)];unfold M8;rw[h2]
theorem zR{c:C5}(h:c.c=0):uu c=M8 c:=by unfold uu;rw[if_neg (by simpa using h)]
theorem dh(P:Nat)(us:List Value)(I:In)(hI:YC I)(s:St)(w:World)(h:DI P w us I s)(cm:C5)(hcm:uu s.cm=cm)(hd:Z8 cm.d=true)(hf:s.fk=0\/WL s.fk=true):
  Calls Tryz.prog 229 #[.pointer (some ⟨P,0,none⟩)] w (Xc P I ((ji I {s with cm:=cm}).1) ((ji I {s with cm:=cm}).2) w):=by
 have HI:=QQ hI;have htop:=hI.top;have hk1:=hI.k1;have XY:=h.XY;have Jl:=h.Jl;have c31:=h.c31;have c32:=h.c32;have JA:=h.JA;have f29:=h.free 29;have f30:=h.free 30;have f31:=h.free 31;have f32:=h.free 32;have f33:=h.free 33;have VF:=h.lt;have HX:=QQ h;have HD:=QQ hd;have HF:=QQ hf;obtain⟨c,hc⟩:∃c,s.cm=c:=⟨_,rfl⟩;rw[hc]at XY Jl c31 c32 JA hcm;have HC:=QQ hc;have HL:=QQ hcm;clear h hI hcm hc hd hf;go_enter Tryz.func229,Tryz.ntmps229
 go_upto_if 13 with fail
 go_cut [2] (fun v wx=>v=.int .i64 0/\(∃Pb,DI P wx Pb I {s with cm:=cm})/\Z6 P w wx)
 case first=>
  exact QjR
 obtain⟨rfl,⟨Mi,h1⟩,hA1⟩:=hcut;clear XY Jl c31 c32 JA f29 f30 f31 f32 f33;have c32:wc.cell? ⟨P,32,none⟩=some (.int .i64 cm.d):=h1.c32;have Oi:=QQ (OA P Mi I HI.out _ wc h1 HF.out);have hd:=HD.out;obtain⟨d,he⟩:∃d,cm.d=d:=⟨_,rfl⟩;rw[he]at c32 hd;have H1:=QQ h1;have hds:d=104\/d=108\/d=48\/d=94\/d=36\/d=124\/d=119\/d=87\/d=98\/d=66\/d=101\/d=69\/d=37\/d=102\/d=70\/d=116\/d=84\/d=59\/d=44:=by
  simpa[Z8]using hd
 clear hd he h1;rcases hds with rfl|rfl|rfl|rfl|rfl|rfl|rfl|rfl|rfl|rfl|rfl|rfl|rfl|rfl|rfl|rfl|rfl|rfl|rfl
 all_goals
  go_wp2_with (go_at_call 248;go_loud (refine(Oi.out).mono ?_;rintro e w3 ⟨rfl,zw,hA3⟩))
  go_ret;exact⟨rfl,zw,hA1.trans hA3⟩
theorem NB(P:Nat)(us:List Value)(I:In)(hI:YC I)(s:St)(w:World)(h:DI P w us I s)(cm:C5)(hcm:uu s.cm=cm)(hd:Z8 cm.d=false)(h0:cm.c=0)(hc0:0<=cm.a)(hc1:cm.a<=999):
  Calls Tryz.prog 229 #[.pointer (some ⟨P,0,none⟩)] w (Xc P I ((Be I {s with cm:=cm}).1) ((Be I {s with cm:=cm}).2) w):=by
 have HI:=QQ hI;have htop:=hI.top;have hk1:=hI.k1;have XY:=h.XY;have Jl:=h.Jl;have c31:=h.c31;have c32:=h.c32;have JA:=h.JA;have f29:=h.free 29;have f30:=h.free 30;have f31:=h.free 31;have f32:=h.free 32;have f33:=h.free 33;have VF:=h.lt;have HX:=QQ h;have HD:=QQ hd;have H0:=QQ h0;have HB:=QQ (And.intro hc0 hc1);obtain⟨c,hc⟩:∃c,s.cm=c:=⟨_,rfl⟩;rw[hc]at XY Jl c31 c32 JA hcm;have HC:=QQ hc;have HL:=QQ hcm;clear h hI hcm hc hd h0 hc0 hc1;go_enter Tryz.func229,Tryz.ntmps229
 go_upto_if 13 with fail
 go_cut [2] (fun v wx=>v=.int .i64 0/\(∃Pb,DI P wx Pb I {s with cm:=cm})/\Z6 P w wx)
 case first=>
  exact QjR
 obtain⟨rfl,⟨Mi,h1⟩,hA1⟩:=hcut;clear XY Jl c31 c32 JA f29 f30 f31 f32 f33;have QZb:(cm.d==104)=false:=by have:=HD.out;simp only[Z8,Qy,QB,Qj,Qz,not_or]at this;simpa using this.1
 have QZa:(cm.d==108)=false:=by have:=HD.out;simp only[Z8,Qy,QB,Qj,Qz,not_or]at this;simpa using this.2.1
 have m48:(cm.d==48)=false:=by have:=HD.out;simp only[Z8,Qy,QB,Qj,Qz,not_or]at this;simpa using this.2.2.1
 have m94:(cm.d==94)=false:=by have:=HD.out;simp only[Z8,Qy,QB,Qj,Qz,not_or]at this;simpa using this.2.2.2.1
 have m36:(cm.d==36)=false:=by have:=HD.out;simp only[Z8,Qy,QB,Qj,Qz,not_or]at this;simpa using this.2.2.2.2.1
 have QZR:(cm.d==124)=false:=by have:=HD.out;simp only[Z8,Qy,QB,Qj,Qz,not_or]at this;simpa using this.2.2.2.2.2.1
 have QZS:(cm.d==119)=false:=by have:=HD.out;simp only[Z8,Qy,QB,Qj,Qz,not_or]at this;simpa using this.2.2.2.2.2.2.1
 have m87:(cm.d==87)=false:=by have:=HD.out;simp only[Z8,Qy,QB,Qj,Qz,not_or]at this;simpa using this.2.2.2.2.2.2.2.1
 have m98:(cm.d==98)=false:=by have:=HD.out;simp only[Z8,Qy,QB,Qj,Qz,not_or]at this;simpa using this.2.2.2.2.2.2.2.2.1
 have m66:(cm.d==66)=false:=by have:=HD.out;simp only[Z8,Qy,QB,Qj,Qz,not_or]at this;simpa using this.2.2.2.2.2.2.2.2.2.1
 have QZd:(cm.d==101)=false:=by have:=HD.out;simp only[Z8,Qy,QB,Qj,Qz,not_or]at this;simpa using this.2.2.2.2.2.2.2.2.2.2.1
 have m69:(cm.d==69)=false:=by have:=HD.out;simp only[Z8,Qy,QB,Qj,Qz,not_or]at this;simpa using this.2.2.2.2.2.2.2.2.2.2.2.1
 have m37:(cm.d==37)=false:=by have:=HD.out;simp only[Z8,Qy,QB,Qj,Qz,not_or]at this;simpa using this.2.2.2.2.2.2.2.2.2.2.2.2.1
 have QZc:(cm.d==102)=false:=by have:=HD.out;simp only[Z8,Qy,QB,Qj,Qz,not_or]at this;simpa using this.2.2.2.2.2.2.2.2.2.2.2.2.2.1
 have m70:(cm.d==70)=false:=by have:=HD.out;simp only[Z8,Qy,QB,Qj,Qz,not_or]at this;simpa using this.2.2.2.2.2.2.2.2.2.2.2.2.2.2.1
 have QZT:(cm.d==116)=false:=by have:=HD.out;simp only[Z8,Qy,QB,Qj,Qz,not_or]at this;simpa using this.2.2.2.2.2.2.2.2.2.2.2.2.2.2.2.1
 have m84:(cm.d==84)=false:=by have:=HD.out;simp only[Z8,Qy,QB,Qj,Qz,not_or]at this;simpa using this.2.2.2.2.2.2.2.2.2.2.2.2.2.2.2.2.1
 have m59:(cm.d==59)=false:=by have:=HD.out;simp only[Z8,Qy,QB,Qj,Qz,not_or]at this;simpa using this.2.2.2.2.2.2.2.2.2.2.2.2.2.2.2.2.2.1
 have m44:(cm.d==44)=false:=by have:=HD.out;simp only[Z8,Qy,QB,Qj,Qz,not_or]at this;simpa using this.2.2.2.2.2.2.2.2.2.2.2.2.2.2.2.2.2.2.1
 have c32:wc.cell? ⟨P,32,none⟩=some (.int .i64 cm.d):=h1.c32;have c31:wc.cell? ⟨P,31,none⟩=some (.int .i64 cm.c):=h1.c31;rw[H0.out]at c31;have Oi:=QQ (IM P Mi I HI.out _ wc h1 HB.out.1 HB.out.2);clear h1;go_wp2_with (go_at_call 249;go_loud (refine(Oi.out).mono ?_;rintro e w3 ⟨rfl,zw,hA3⟩))
 go_ret;exact⟨rfl,zw,hA1.trans hA3⟩
theorem dm(P:Nat)(us:List Value)(I:In)(hI:YC I)(s:St)(w:World)(h:DI P w us I s)(cm:C5)(hcm:uu s.cm=cm)(hd:Z8 cm.d=false)(h0:cm.c≠0)(he:cm.d=cm.c):
  Calls Tryz.prog 229 #[.pointer (some ⟨P,0,none⟩)] w (Xc P I ((Aq I {s with cm:=cm} 0 I.n true).1) ((Aq I {s with cm:=cm} 0 I.n true).2) w):=by
 have HI:=QQ hI;have htop:=hI.top;have hk1:=hI.k1;have XY:=h.XY;have Jl:=h.Jl;have c31:=h.c31;have c32:=h.c32;have JA:=h.JA;have f29:=h.free 29;have f30:=h.free 30;have f31:=h.free 31;have f32:=h.free 32;have f33:=h.free 33;have VF:=h.lt;have HX:=QQ h;have HD:=QQ hd;have H0:=QQ h0;have HE:=QQ he;obtain⟨c,hc⟩:∃c,s.cm=c:=⟨_,rfl⟩;rw[hc]at XY Jl c31 c32 JA hcm;have HC:=QQ hc;have HL:=QQ hcm;clear h hI hcm hc hd h0 he;go_enter Tryz.func229,Tryz.ntmps229
 go_upto_if 13 with fail
 go_cut [2] (fun v wx=>v=.int .i64 0/\(∃Pb,DI P wx Pb I {s with cm:=cm})/\Z6 P w wx)
 case first=>
  exact QjR
 obtain⟨rfl,⟨Mi,h1⟩,hA1⟩:=hcut;clear XY Jl c31 c32 JA f29 f30 f31 f32 f33;have QZb:(cm.d==104)=false:=by have:=HD.out;simp only[Z8,Qy,QB,Qj,Qz,not_or]at this;simpa using this.1
 have QZa:(cm.d==108)=false:=by have:=HD.out;simp only[Z8,Qy,QB,Qj,Qz,not_or]at this;simpa using this.2.1
 have m48:(cm.d==48)=false:=by have:=HD.out;simp only[Z8,Qy,QB,Qj,Qz,not_or]at this;simpa using this.2.2.1
 have m94:(cm.d==94)=false:=by have:=HD.out;simp only[Z8,Qy,QB,Qj,Qz,not_or]at this;simpa using this.2.2.2.1
 have m36:(cm.d==36)=false:=by have:=HD.out;simp only[Z8,Qy,QB,Qj,Qz,not_or]at this;simpa using this.2.2.2.2.1
 have QZR:(cm.d==124)=false:=by have:=HD.out;simp only[Z8,Qy,QB,Qj,Qz,not_or]at this;simpa using this.2.2.2.2.2.1
 have QZS:(cm.d==119)=false:=by have:=HD.out;simp only[Z8,Qy,QB,Qj,Qz,not_or]at this;simpa using this.2.2.2.2.2.2.1
 have m87:(cm.d==87)=false:=by have:=HD.out;simp only[Z8,Qy,QB,Qj,Qz,not_or]at this;simpa using this.2.2.2.2.2.2.2.1
 have m98:(cm.d==98)=false:=by have:=HD.out;simp only[Z8,Qy,QB,Qj,Qz,not_or]at this;simpa using this.2.2.2.2.2.2.2.2.1
 have m66:(cm.d==66)=false:=by have:=HD.out;simp only[Z8,Qy,QB,Qj,Qz,not_or]at this;simpa using this.2.2.2.2.2.2.2.2.2.1
 have QZd:(cm.d==101)=false:=by have:=HD.out;simp only[Z8,Qy,QB,Qj,Qz,not_or]at this;simpa using this.2.2.2.2.2.2.2.2.2.2.1
 have m69:(cm.d==69)=false:=by have:=HD.out;simp only[Z8,Qy,QB,Qj,Qz,not_or]at this;simpa using this.2.2.2.2.2.2.2.2.2.2.2.1
 have m37:(cm.d==37)=false:=by have:=HD.out;simp only[Z8,Qy,QB,Qj,Qz,not_or]at this;simpa using this.2.2.2.2.2.2.2.2.2.2.2.2.1
 have QZc:(cm.d==102)=false:=by have:=HD.out;simp only[Z8,Qy,QB,Qj,Qz,not_or]at this;simpa using this.2.2.2.2.2.2.2.2.2.2.2.2.2.1
 have m70:(cm.d==70)=false:=by have:=HD.out;simp only[Z8,Qy,QB,Qj,Qz,not_or]at this;simpa using this.2.2.2.2.2.2.2.2.2.2.2.2.2.2.1
 have QZT:(cm.d==116)=false:=by have:=HD.out;simp only[Z8,Qy,QB,Qj,Qz,not_or]at this;simpa using this.2.2.2.2.2.2.2.2.2.2.2.2.2.2.2.1
 have m84:(cm.d==84)=false:=by have:=HD.out;simp only[Z8,Qy,QB,Qj,Qz,not_or]at this;simpa using this.2.2.2.2.2.2.2.2.2.2.2.2.2.2.2.2.1
 have m59:(cm.d==59)=false:=by have:=HD.out;simp only[Z8,Qy,QB,Qj,Qz,not_or]at this;simpa using this.2.2.2.2.2.2.2.2.2.2.2.2.2.2.2.2.2.1
 have m44:(cm.d==44)=false:=by have:=HD.out;simp only[Z8,Qy,QB,Qj,Qz,not_or]at this;simpa using this.2.2.2.2.2.2.2.2.2.2.2.2.2.2.2.2.2.2.1
 have c0:=h1.c0;have c32:wc.cell? ⟨P,32,none⟩=some (.int .i64 cm.d):=h1.c32;have c31:wc.cell? ⟨P,31,none⟩=some (.int .i64 cm.d):=by rw[HE.out];exact h1.c31
 have n0:(cm.d==0)=false:=by have:=H0.out;rw[<-HE.out]at this;simpa using this
 have H1:=QQ h1;have Oi:=QQ (fun w2 (h2:DI P w2 Mi I {s with cm:=cm})=>KH P 0 I.n true Mi I HI.out _ w2 h2 (Qe _) (QU _));clear h1;go_upto_region 28 with fail
 go_region
 all_goals
  go_wp2_with (go_at_call 250;go_loud (refine(Oi.out _ H1.out.drew).mono ?_;rintro e w3 ⟨rfl,zw,hA3⟩))
  go_ret;exact⟨rfl,zw,hA1.drew.trans hA3⟩
theorem di(P:Nat)(us:List Value)(I:In)(hI:YC I)(s:St)(w:World)(h:DI P w us I s)(cm:C5)(hcm:uu s.cm=cm)(hd:Z8 cm.d=false)(h0:cm.c≠0)(he:cm.d≠cm.c)(hi:cm.d≠105)(ha:cm.d≠97):
  Calls Tryz.prog 229 #[.pointer (some ⟨P,0,none⟩)] w (Xc P I (9) ({s with cm:=cm}) w):=by
 have HI:=QQ hI;have htop:=hI.top;have hk1:=hI.k1;have XY:=h.XY;have Jl:=h.Jl;have c31:=h.c31;have c32:=h.c32;have JA:=h.JA;have f29:=h.free 29;have f30:=h.free 30;have f31:=h.free 31;have f32:=h.free 32;have f33:=h.free 33;have VF:=h.lt;have HX:=QQ h;have HD:=QQ hd;have H0:=QQ h0;have HE:=QQ he;have HII:=QQ hi;have HAA:=QQ ha;obtain⟨c,hc⟩:∃c,s.cm=c:=⟨_,rfl⟩;rw[hc]at XY Jl c31 c32 JA hcm;have HC:=QQ hc;have HL:=QQ hcm;clear h hI hcm hc hd h0 he hi ha;go_enter Tryz.func229,Tryz.ntmps229
 go_upto_if 13 with fail
 go_cut [2] (fun v wx=>v=.int .i64 0/\(∃Pb,DI P wx Pb I {s with cm:=cm})/\Z6 P w wx)
 case first=>
  exact QjR
 obtain⟨rfl,⟨Mi,h1⟩,hA1⟩:=hcut;clear XY Jl c31 c32 JA f29 f30 f31 f32 f33;have QZb:(cm.d==104)=false:=by have:=HD.out;simp only[Z8,Qy,QB,Qj,Qz,not_or]at this;simpa using this.1
 have QZa:(cm.d==108)=false:=by have:=HD.out;simp only[Z8,Qy,QB,Qj,Qz,not_or]at this;simpa using this.2.1
 have m48:(cm.d==48)=false:=by have:=HD.out;simp only[Z8,Qy,QB,Qj,Qz,not_or]at this;simpa using this.2.2.1
 have m94:(cm.d==94)=false:=by have:=HD.out;simp only[Z8,Qy,QB,Qj,Qz,not_or]at this;simpa using this.2.2.2.1
 have m36:(cm.d==36)=false:=by have:=HD.out;simp only[Z8,Qy,QB,Qj,Qz,not_or]at this;simpa using this.2.2.2.2.1
 have QZR:(cm.d==124)=false:=by have:=HD.out;simp only[Z8,Qy,QB,Qj,Qz,not_or]at this;simpa using this.2.2.2.2.2.1
 have QZS:(cm.d==119)=false:=by have:=HD.out;simp only[Z8,Qy,QB,Qj,Qz,not_or]at this;simpa using this.2.2.2.2.2.2.1
 have m87:(cm.d==87)=false:=by have:=HD.out;simp only[Z8,Qy,QB,Qj,Qz,not_or]at this;simpa using this.2.2.2.2.2.2.2.1
 have m98:(cm.d==98)=false:=by have:=HD.out;simp only[Z8,Qy,QB,Qj,Qz,not_or]at this;simpa using this.2.2.2.2.2.2.2.2.1
 have m66:(cm.d==66)=false:=by have:=HD.out;simp only[Z8,Qy,QB,Qj,Qz,not_or]at this;simpa using this.2.2.2.2.2.2.2.2.2.1
 have QZd:(cm.d==101)=false:=by have:=HD.out;simp only[Z8,Qy,QB,Qj,Qz,not_or]at this;simpa using this.2.2.2.2.2.2.2.2.2.2.1
 have m69:(cm.d==69)=false:=by have:=HD.out;simp only[Z8,Qy,QB,Qj,Qz,not_or]at this;simpa using this.2.2.2.2.2.2.2.2.2.2.2.1
 have m37:(cm.d==37)=false:=by have:=HD.out;simp only[Z8,Qy,QB,Qj,Qz,not_or]at this;simpa using this.2.2.2.2.2.2.2.2.2.2.2.2.1
 have QZc:(cm.d==102)=false:=by have:=HD.out;simp only[Z8,Qy,QB,Qj,Qz,not_or]at this;simpa using this.2.2.2.2.2.2.2.2.2.2.2.2.2.1
 have m70:(cm.d==70)=false:=by have:=HD.out;simp only[Z8,Qy,QB,Qj,Qz,not_or]at this;simpa using this.2.2.2.2.2.2.2.2.2.2.2.2.2.2.1
 have QZT:(cm.d==116)=false:=by have:=HD.out;simp only[Z8,Qy,QB,Qj,Qz,not_or]at this;simpa using this.2.2.2.2.2.2.2.2.2.2.2.2.2.2.2.1
 have m84:(cm.d==84)=false:=by have:=HD.out;simp only[Z8,Qy,QB,Qj,Qz,not_or]at this;simpa using this.2.2.2.2.2.2.2.2.2.2.2.2.2.2.2.2.1
 have m59:(cm.d==59)=false:=by have:=HD.out;simp only[Z8,Qy,QB,Qj,Qz,not_or]at this;simpa using this.2.2.2.2.2.2.2.2.2.2.2.2.2.2.2.2.2.1
 have m44:(cm.d==44)=false:=by have:=HD.out;simp only[Z8,Qy,QB,Qj,Qz,not_or]at this;simpa using this.2.2.2.2.2.2.2.2.2.2.2.2.2.2.2.2.2.2.1
 have c32:wc.cell? ⟨P,32,none⟩=some (.int .i64 cm.d):=h1.c32;have c31:wc.cell? ⟨P,31,none⟩=some (.int .i64 cm.c):=h1.c31;have n0:(cm.c==0)=false:=by have:=H0.out;simpa using this
 have n1:(cm.d==cm.c)=false:=by have:=HE.out;simpa using this
 have n2:(cm.d !=105)=true:=by have:=HII.out;simpa using this
 have n3:(cm.d !=97)=true:=by have:=HAA.out;simpa using this
 have H1:=QQ h1;clear h1;go_upto_region 28 with fail
 go_region
 all_goals
  go_wp2;go_ret;exact⟨rfl,⟨_,H1.out.drew⟩,hA1.drew⟩
theorem Br(P:Nat)(us:List Value)(I:In)(hI:YC I)(s:St)(w:World)(h:DI P w us I s)(cm:C5)(hcm:uu s.cm=cm)(hd:cm.d=97)(h0:cm.c≠0)(he:cm.d≠cm.c):
  Calls Tryz.prog 229 #[.pointer (some ⟨P,0,none⟩)] w (Xc P I ((O7 I {s with cm:=cm} true).1) ((O7 I {s with cm:=cm} true).2) w):=by
 have HI:=QQ hI;have htop:=hI.top;have hk1:=hI.k1;have XY:=h.XY;have Jl:=h.Jl;have c31:=h.c31;have c32:=h.c32;have JA:=h.JA;have f29:=h.free 29;have f30:=h.free 30;have f31:=h.free 31;have f32:=h.free 32;have f33:=h.free 33;have VF:=h.lt;have HX:=QQ h;have HD:=QQ hd;have H0:=QQ h0;have HE:=QQ he;obtain⟨c,hc⟩:∃c,s.cm=c:=⟨_,rfl⟩;rw[hc]at XY Jl c31 c32 JA hcm;have HC:=QQ hc;have HL:=QQ hcm;clear h hI hcm hc hd h0 he;go_enter Tryz.func229,Tryz.ntmps229
 go_upto_if 13 with fail
 go_cut [2] (fun v wx=>v=.int .i64 0/\(∃Pb,DI P wx Pb I {s with cm:=cm})/\Z6 P w wx)
 case first=>
  exact QjR
 obtain⟨rfl,⟨Mi,h1⟩,hA1⟩:=hcut;clear XY Jl c31 c32 JA f29 f30 f31 f32 f33;have c0:=h1.c0;have c1:=h1.c1;have JA:wc.cell? ⟨P,33,none⟩=some (.int .i64 cm.e):=h1.JA;have c32:wc.cell? ⟨P,32,none⟩=some (.int .i64 97):=by rw[<-HD.out];exact h1.c32
 have c31:wc.cell? ⟨P,31,none⟩=some (.int .i64 cm.c):=h1.c31;have n0:(cm.c==0)=false:=by have:=H0.out;simpa using this
 have n1:(((97:Nat):Int)==cm.c)=false:=by have:=HE.out;rw[HD.out]at this;simpa using this
 have n2:((97:Int)==cm.c)=false:=by have:=HE.out;rw[HD.out]at this;simpa using this
 have hT:=h1.sl HI.out;have N8:=h1.lt;have OF:∀w2,Below wc.heap.size wc w2->Calls Tryz.prog 251 #[.slice I.a I.n I.c,.int .i64 (I.k:Int),.bool true,.int .i64 cm.e] w2 (DW (vG I.t (YO I.t I.n I.n).out true I.k cm.e) w2):=fun w2 hb=>U3 I.a I.n I.c I.t I.k true cm.e w2 (hT.below hb) HI.out.len (by omega) (by omega)
 have HOF:=QQ OF;have H1:=QQ h1;clear OF hT h1;go_upto_region 28 with fail
 go_cut [63] (fun v wx=>v=.bool false/\wc.drew=wx)
 case first=>
  go_region
  all_goals
   exact Quy
 obtain⟨rfl,rfl⟩:=hcut;replace c0:wc.drew.cell? ⟨P,0,none⟩=some (.slice I.a I.n I.c):=c0;replace c1:wc.drew.cell? ⟨P,1,none⟩=some (.int .i64 (I.k:Int)):=c1;replace c32:wc.drew.cell? ⟨P,32,none⟩=some (.int .i64 97):=c32;replace JA:wc.drew.cell? ⟨P,33,none⟩=some (.int .i64 cm.e):=JA;clear c31;go_upto_region 32 with fail
 go_cut [5,6,7] (fun u v e wx=>∃fa ta er,vG I.t (YO I.t I.n I.n).out true I.k cm.e fa ta er/\u=.int .i64 fa/\v=.int .i64 ta/\e=.int .i64 er/\Below wc.heap.size wc wx)
 case first=>
  go_region_held3 (fun w'=>w'.cell? ⟨P,0,none⟩=some (.slice I.a I.n I.c)/\w'.cell? ⟨P,1,none⟩=some (.int .i64 (I.k:Int))/\w'.cell? ⟨P,32,none⟩=some (.int .i64 97)/\w'.cell? ⟨P,33,none⟩=some (.int .i64 cm.e)) (first|exact⟨c0,c1,c32,JA⟩|assumption|exact⟨g0,g1,g2,g3⟩) (first|(go_at_call 251;refine(HOF.out _ ((Qx _ _).drew.drew)).mono ?_;rintro e w8 ⟨xa,xb,xe,rfl,hx,ZU⟩;have g0:w8.cell? ⟨P,0,none⟩=some (.slice I.a I.n I.c):=(by rw[ZU.cell N8];exact c0);have g1:w8.cell? ⟨P,1,none⟩=some (.int .i64 (I.k:Int)):=(by rw[ZU.cell N8];exact c1);have g2:w8.cell? ⟨P,32,none⟩=some (.int .i64 97):=(by rw[ZU.cell N8];exact c32);have g3:w8.cell? ⟨P,33,none⟩=some (.int .i64 cm.e):=(by rw[ZU.cell N8];exact JA)))
  all_goals
   exact QAR
 obtain⟨fa,ta,er,ho,rfl,rfl,rfl,hb2⟩:=hcut;have HO:=QQ ho;clear ho;have h2:=H1.out.to hb2;have HA2:=QQ (hA1.trans (Z6.of hb2));have H2:=QQ h2;clear h2 hb2 c0 c1 c32 JA;by_cases hz:er=0
 ·subst hz
  obtain⟨b1,b2,b3⟩:=HO.out.bound HI.out.len hk1 rfl;rw[HI.out.len]at b3;obtain⟨f,rfl⟩:=Qg b1;obtain⟨g,rfl⟩:=Qg (show 0<=ta by omega);have Oi:=QQ (KH P f g false Mi I HI.out _ wc H2.out (by omega) (by omega));clear b1 b2 b3;go_wp2_with (go_at_call 250;go_loud (refine(Oi.out).mono ?_;rintro e w3 ⟨rfl,zw,hA3⟩))
  go_ret;have pg:O7 I {s with cm:=cm} true=Aq I {s with cm:=cm} f g false:=by unfold O7;rw[jh HO.out,if_neg (by simp)];rfl
  rw[pg];exact⟨rfl,zw,HA2.out.trans hA3⟩
 ·have nz:(er !=0)=true:=by simpa using hz
  have HZ:=QQ hz;clear hz;go_wp2;go_ret;have pg:O7 I {s with cm:=cm} true=(er,{s with cm:=cm}):=by unfold O7;rw[jh HO.out,if_pos HZ.out]
  rw[pg];exact⟨rfl,⟨_,H2.out⟩,HA2.out⟩
theorem uT(P:Nat)(us:List Value)(I:In)(hI:YC I)(s:St)(w:World)(h:DI P w us I s)(cm:C5)(hcm:uu s.cm=cm)(hd:cm.d=105)(h0:cm.c≠0)(he:cm.d≠cm.c):
  Calls Tryz.prog 229 #[.pointer (some ⟨P,0,none⟩)] w (Xc P I ((O7 I {s with cm:=cm} false).1) ((O7 I {s with cm:=cm} false).2) w):=by
 have HI:=QQ hI;have htop:=hI.top;have hk1:=hI.k1;have XY:=h.XY;have Jl:=h.Jl;have c31:=h.c31;have c32:=h.c32;have JA:=h.JA;have f29:=h.free 29;have f30:=h.free 30;have f31:=h.free 31;have f32:=h.free 32;have f33:=h.free 33;have VF:=h.lt;have HX:=QQ h;have HD:=QQ hd;have H0:=QQ h0;have HE:=QQ he;obtain⟨c,hc⟩:∃c,s.cm=c:=⟨_,rfl⟩;rw[hc]at XY Jl c31 c32 JA hcm;have HC:=QQ hc;have HL:=QQ hcm;clear h hI hcm hc hd h0 he;go_enter Tryz.func229,Tryz.ntmps229
 go_upto_if 13 with fail
 go_cut [2] (fun v wx=>v=.int .i64 0/\(∃Pb,DI P wx Pb I {s with cm:=cm})/\Z6 P w wx)
 case first=>
  exact QjR
 obtain⟨rfl,⟨Mi,h1⟩,hA1⟩:=hcut;clear XY Jl c31 c32 JA f29 f30 f31 f32 f33;have c0:=h1.c0;have c1:=h1.c1;have JA:wc.cell? ⟨P,33,none⟩=some (.int .i64 cm.e):=h1.JA;have c32:wc.cell? ⟨P,32,none⟩=some (.int .i64 105):=by rw[<-HD.out];exact h1.c32
 have c31:wc.cell? ⟨P,31,none⟩=some (.int .i64 cm.c):=h1.c31;have n0:(cm.c==0)=false:=by have:=H0.out;simpa using this
 have n1:(((105:Nat):Int)==cm.c)=false:=by have:=HE.out;rw[HD.out]at this;simpa using this
 have n2:((105:Int)==cm.c)=false:=by have:=HE.out;rw[HD.out]at this;simpa using this
 have hT:=h1.sl HI.out;have N8:=h1.lt;have OF:∀w2,Below wc.heap.size wc w2->Calls Tryz.prog 251 #[.slice I.a I.n I.c,.int .i64 (I.k:Int),.bool false,.int .i64 cm.e] w2 (DW (vG I.t (YO I.t I.n I.n).out false I.k cm.e) w2):=fun w2 hb=>U3 I.a I.n I.c I.t I.k false cm.e w2 (hT.below hb) HI.out.len (by omega) (by omega)
 have HOF:=QQ OF;have H1:=QQ h1;clear OF hT h1;go_upto_region 28 with fail
 go_cut [63] (fun v wx=>v=.bool false/\wc.drew=wx)
 case first=>
  go_region
  all_goals
   exact Quy
 obtain⟨rfl,rfl⟩:=hcut;replace c0:wc.drew.cell? ⟨P,0,none⟩=some (.slice I.a I.n I.c):=c0;replace c1:wc.drew.cell? ⟨P,1,none⟩=some (.int .i64 (I.k:Int)):=c1;replace c32:wc.drew.cell? ⟨P,32,none⟩=some (.int .i64 105):=c32;replace JA:wc.drew.cell? ⟨P,33,none⟩=some (.int .i64 cm.e):=JA;clear c31;go_upto_region 32 with fail
 go_cut [5,6,7] (fun u v e wx=>∃fa ta er,vG I.t (YO I.t I.n I.n).out false I.k cm.e fa ta er/\u=.int .i64 fa/\v=.int .i64 ta/\e=.int .i64 er/\Below wc.heap.size wc wx)
 case first=>
  go_region_held3 (fun w'=>w'.cell? ⟨P,0,none⟩=some (.slice I.a I.n I.c)/\w'.cell? ⟨P,1,none⟩=some (.int .i64 (I.k:Int))/\w'.cell? ⟨P,32,none⟩=some (.int .i64 105)/\w'.cell? ⟨P,33,none⟩=some (.int .i64 cm.e)) (first|exact⟨c0,c1,c32,JA⟩|assumption|exact⟨g0,g1,g2,g3⟩) (first|(go_at_call 251;refine(HOF.out _ ((Qx _ _).drew.drew)).mono ?_;rintro e w8 ⟨xa,xb,xe,rfl,hx,ZU⟩;have g0:w8.cell? ⟨P,0,none⟩=some (.slice I.a I.n I.c):=(by rw[ZU.cell N8];exact c0);have g1:w8.cell? ⟨P,1,none⟩=some (.int .i64 (I.k:Int)):=(by rw[ZU.cell N8];exact c1);have g2:w8.cell? ⟨P,32,none⟩=some (.int .i64 105):=(by rw[ZU.cell N8];exact c32);have g3:w8.cell? ⟨P,33,none⟩=some (.int .i64 cm.e):=(by rw[ZU.cell N8];exact JA)))
  all_goals
   exact QAR
 obtain⟨fa,ta,er,ho,rfl,rfl,rfl,hb2⟩:=hcut;have HO:=QQ ho;clear ho;have h2:=H1.out.to hb2;have HA2:=QQ (hA1.trans (Z6.of hb2));have H2:=QQ h2;clear h2 hb2 c0 c1 c32 JA;by_cases hz:er=0
 ·subst hz
  obtain⟨b1,b2,b3⟩:=HO.out.bound HI.out.len hk1 rfl;rw[HI.out.len]at b3;obtain⟨f,rfl⟩:=Qg b1;obtain⟨g,rfl⟩:=Qg (show 0<=ta by omega);have Oi:=QQ (KH P f g false Mi I HI.out _ wc H2.out (by omega) (by omega));clear b1 b2 b3;go_wp2_with (go_at_call 250;go_loud (refine(Oi.out).mono ?_;rintro e w3 ⟨rfl,zw,hA3⟩))
  go_ret;have pg:O7 I {s with cm:=cm} false=Aq I {s with cm:=cm} f g false:=by unfold O7;rw[jh HO.out,if_neg (by simp)];rfl
  rw[pg];exact⟨rfl,zw,HA2.out.trans hA3⟩
 ·have nz:(er !=0)=true:=by simpa using hz
  have HZ:=QQ hz;clear hz;go_wp2;go_ret;have pg:O7 I {s with cm:=cm} false=(er,{s with cm:=cm}):=by unfold O7;rw[jh HO.out,if_pos HZ.out]
  rw[pg];exact⟨rfl,⟨_,H2.out⟩,HA2.out⟩
theorem TP(P:Nat)(us:List Value)(I:In)(hI:YC I)(s:St)(w:World)(h:DI P w us I s)(hc0:0<=s.cm.a)(hc1:s.cm.a<=999)(hf:s.fk=0\/WL s.fk=true):
  Calls Tryz.prog 229 #[.pointer (some ⟨P,0,none⟩)] w (Xc P I (Fg I {s with cm:=uu s.cm}).1 (Fg I {s with cm:=uu s.cm}).2 w):=by
 have ha:(uu s.cm).a=s.cm.a:=by
  unfold uu M8;split
  ·rfl
  ·split<;>rfl
 obtain⟨cm,hcm⟩:∃cm,uu s.cm=cm:=⟨_,rfl⟩;rw[hcm]at ha ⊢;cases hm:Z8 cm.d
 ·have hne:¬(Z8 cm.d=true):=by simp[hm]
  by_cases h0:cm.c=0
  ·rw[Fg];dsimp only;rw[if_neg hne,if_pos h0]
   exact NB P us I hI s w h cm hcm hm h0 (by rw[ha];exact hc0) (by rw[ha];exact hc1)
  ·by_cases he:cm.d=cm.c
   ·rw[Fg];dsimp only;rw[if_neg hne,if_neg h0,if_pos he]
    exact dm P us I hI s w h cm hcm hm h0 he
   ·by_cases hia:cm.d≠105/\cm.d≠97
    ·rw[Fg];dsimp only;rw[if_neg hne,if_neg h0,if_neg he,if_pos hia]
     exact di P us I hI s w h cm hcm hm h0 he hia.1 hia.2
    ·rw[Fg];dsimp only;rw[if_neg hne,if_neg h0,if_neg he,if_neg hia]
     by_cases h97:cm.d=97
     ·have hb:decide (cm.d=97)=true:=by simpa using h97
      rw[hb];exact Br P us I hI s w h cm hcm h97 h0 he
     ·have hb:decide (cm.d=97)=false:=by simpa using h97
      have QUy:cm.d=105:=by omega
      rw[hb];exact uT P us I hI s w h cm hcm QUy h0 he
 ·rw[Fg];dsimp only;rw[if_pos hm]
  exact dh P us I hI s w h cm hcm hm hf
end Go.Proofs.YtmdcencmiopmmaaGreat
