/- joined, no condition of its own. -/
import Derived.Test.YtmdcencmiopmmaaGreatJnT
import Derived.Test.YtmdcencmiopmmaaGreatJnJ1
import Derived.Test.YtmdcencmiopmmaaGreatJnJ13
set_option linter.unusedVariables false
set_option linter.unusedSimpArgs false
set_option maxRecDepth 100000
set_option maxHeartbeats 12000000
namespace Go.Proofs.YtmdcencmiopmmaaGreat
open Go.RowKit
theorem QVT{P:Nat}{fk fa ct rg op vb ar:Int}{w w1:World}{w2:World}(hP:P<w.heap.size)(h:w1.cell? ⟨P,63,none⟩=some (.int .i64 fk)/\w1.cell? ⟨P,64,none⟩=some (.int .i64 fa)/\w1.cell? ⟨P,29,none⟩=some (.int .i64 ct)/\w1.cell? ⟨P,30,none⟩=some (.int .i64 rg)/\w1.cell? ⟨P,31,none⟩=some (.int .i64 op)/\w1.cell? ⟨P,32,none⟩=some (.int .i64 vb)/\w1.cell? ⟨P,33,none⟩=some (.int .i64 ar)/\Below w.heap.size w w1)(hb:Below w.heap.size w1 w2):w2.cell? ⟨P,63,none⟩=some (.int .i64 fk)/\w2.cell? ⟨P,64,none⟩=some (.int .i64 fa)/\w2.cell? ⟨P,29,none⟩=some (.int .i64 ct)/\w2.cell? ⟨P,30,none⟩=some (.int .i64 rg)/\w2.cell? ⟨P,31,none⟩=some (.int .i64 op)/\w2.cell? ⟨P,32,none⟩=some (.int .i64 vb)/\w2.cell? ⟨P,33,none⟩=some (.int .i64 ar)/\Below w.heap.size w w2:=
 ⟨QBe,by rw[hb.cell hP];exact h.2.1,by rw[hb.cell hP];exact h.2.2.1,by rw[hb.cell hP];exact h.2.2.2.1,by rw[hb.cell hP];exact h.2.2.2.2.1,by rw[hb.cell hP];exact h.2.2.2.2.2.1,by rw[hb.cell hP];exact h.2.2.2.2.2.2.1,h.2.2.2.2.2.2.2.trans hb⟩
theorem QVe{w w8:World}(XF:Below (w.drew).heap.size (w.drew) w8):w.heap.size<=w8.heap.size/\Below w.heap.size w w8:=by
 have h0:w.heap.size<=(w.drew).heap.size:=QAR;have h1:Below w.heap.size w (w.drew):=(ZH w.heap.size w).drew;have UW:Below w.heap.size w w8:=h1.trans (XF.mono h0);exact⟨Zh h0 XF.size,UW⟩
theorem QVd{w w8:World}(XF:Below ((w.alloc (.cells #[.int .i64 0,.int .i64 0,.int .i64 0] 312)).drew).heap.size ((w.alloc (.cells #[.int .i64 0,.int .i64 0,.int .i64 0] 312)).drew) w8):w.heap.size<=w8.heap.size/\Below w.heap.size w w8/\w.heap.size<w8.heap.size/\w.heap.size+0<w8.heap.size/\w.heap.size≠w8.heap.size/\w8.heap.size≠w.heap.size/\w8.cell? ⟨w.heap.size,0,none⟩=some (.int .i64 0)/\w8.cell? ⟨w.heap.size,1,none⟩=some (.int .i64 0)/\w8.cell? ⟨w.heap.size,2,none⟩=some (.int .i64 0)/\w8.frozen? ⟨w.heap.size,0,none⟩=false/\w8.frozen? ⟨w.heap.size,1,none⟩=false/\w8.frozen? ⟨w.heap.size,2,none⟩=false:=by
 have h0:w.heap.size<=((w.alloc (.cells #[.int .i64 0,.int .i64 0,.int .i64 0] 312)).drew).heap.size:=QAR;have h1:Below w.heap.size w ((w.alloc (.cells #[.int .i64 0,.int .i64 0,.int .i64 0] 312)).drew):=((ZH w.heap.size w).alloc (ZB _) _).drew;have UW:Below w.heap.size w w8:=h1.trans (XF.mono h0);have h9:w.heap.size+1<=w8.heap.size:=Qv8;have k0:Za w8 w.heap.size #[.int .i64 0,.int .i64 0,.int .i64 0] 312:=(Za.new w #[.int .i64 0,.int .i64 0,.int .i64 0] 312).below (w:=((w.alloc (.cells #[.int .i64 0,.int .i64 0,.int .i64 0] 312)).drew)) XF (by show _<((w.alloc (.cells #[.int .i64 0,.int .i64 0,.int .i64 0] 312)).drew).heap.size;simp only[Xk,Zv];omega);obtain⟨uH,uG,uF,uE,Tj,Ty⟩:=k0.three;exact⟨Zh h0 XF.size,UW,QQ,QQ,QQ,QQ,uH,uG,uF,uE,Tj,Ty⟩
theorem QVc{w w8:World}(XF:Below ((w.alloc (.cells #[.int .i64 0,.int .i64 0] 34)).drew).heap.size ((w.alloc (.cells #[.int .i64 0,.int .i64 0] 34)).drew) w8):w.heap.size<=w8.heap.size/\Below w.heap.size w w8/\w.heap.size<w8.heap.size/\w.heap.size+0<w8.heap.size/\w.heap.size≠w8.heap.size/\w8.heap.size≠w.heap.size/\w8.cell? ⟨w.heap.size,0,none⟩=some (.int .i64 0)/\w8.cell? ⟨w.heap.size,1,none⟩=some (.int .i64 0)/\w8.frozen? ⟨w.heap.size,0,none⟩=false/\w8.frozen? ⟨w.heap.size,1,none⟩=false:=by
 have h0:w.heap.size<=((w.alloc (.cells #[.int .i64 0,.int .i64 0] 34)).drew).heap.size:=QAR;have h1:Below w.heap.size w ((w.alloc (.cells #[.int .i64 0,.int .i64 0] 34)).drew):=((ZH w.heap.size w).alloc (ZB _) _).drew;have UW:Below w.heap.size w w8:=h1.trans (XF.mono h0);have h9:w.heap.size+1<=w8.heap.size:=Qv8;have k0:Za w8 w.heap.size #[.int .i64 0,.int .i64 0] 34:=(Za.new w #[.int .i64 0,.int .i64 0] 34).below (w:=((w.alloc (.cells #[.int .i64 0,.int .i64 0] 34)).drew)) XF (by show _<((w.alloc (.cells #[.int .i64 0,.int .i64 0] 34)).drew).heap.size;simp only[Xk,Zv];omega);obtain⟨uH,uG,uF,uE⟩:=k0.two;exact⟨Zh h0 XF.size,UW,QQ,QQ,QQ,QQ,uH,uG,uF,uE⟩
theorem QVb{w w8:World}(XF:Below (((w.alloc (.cells #[.int .i64 0,.int .i64 0,.int .i64 0] 312)).alloc (.cells #[.int .i64 0,.int .i64 0] 34)).drew).heap.size (((w.alloc (.cells #[.int .i64 0,.int .i64 0,.int .i64 0] 312)).alloc (.cells #[.int .i64 0,.int .i64 0] 34)).drew) w8):w.heap.size<=w8.heap.size/\Below w.heap.size w w8/\w.heap.size<w8.heap.size/\w.heap.size+1<w8.heap.size/\w.heap.size≠w8.heap.size/\w8.heap.size≠w.heap.size/\w8.cell? ⟨w.heap.size,0,none⟩=some (.int .i64 0)/\w8.cell? ⟨w.heap.size,1,none⟩=some (.int .i64 0)/\w8.cell? ⟨w.heap.size,2,none⟩=some (.int .i64 0)/\w8.frozen? ⟨w.heap.size,0,none⟩=false/\w8.frozen? ⟨w.heap.size,1,none⟩=false/\w8.frozen? ⟨w.heap.size,2,none⟩=false/\w8.cell? ⟨w.heap.size+1,0,none⟩=some (.int .i64 0)/\w8.cell? ⟨w.heap.size+1,1,none⟩=some (.int .i64 0)/\w8.frozen? ⟨w.heap.size+1,0,none⟩=false/\w8.frozen? ⟨w.heap.size+1,1,none⟩=false:=by
 have h0:w.heap.size<=(((w.alloc (.cells #[.int .i64 0,.int .i64 0,.int .i64 0] 312)).alloc (.cells #[.int .i64 0,.int .i64 0] 34)).drew).heap.size:=QAR;have h1:Below w.heap.size w (((w.alloc (.cells #[.int .i64 0,.int .i64 0,.int .i64 0] 312)).alloc (.cells #[.int .i64 0,.int .i64 0] 34)).drew):=(((ZH w.heap.size w).alloc (ZB _) _).alloc QAV _).drew;have UW:Below w.heap.size w w8:=h1.trans (XF.mono h0);have h9:w.heap.size+2<=w8.heap.size:=Qv8;have k0:Za w8 w.heap.size #[.int .i64 0,.int .i64 0,.int .i64 0] 312:=((Za.new w #[.int .i64 0,.int .i64 0,.int .i64 0] 312).alloc (.cells #[.int .i64 0,.int .i64 0] 34)).below (w:=(((w.alloc (.cells #[.int .i64 0,.int .i64 0,.int .i64 0] 312)).alloc (.cells #[.int .i64 0,.int .i64 0] 34)).drew)) XF Qvp;obtain⟨uH,uG,uF,uE,Tj,Ty⟩:=k0.three;have k1:Za w8 (w.heap.size+1) #[.int .i64 0,.int .i64 0] 34:=(show Za _ (w.heap.size+1) #[.int .i64 0,.int .i64 0] 34 from(Zv w (.cells #[.int .i64 0,.int .i64 0,.int .i64 0] 312))▸Za.new (w.alloc (.cells #[.int .i64 0,.int .i64 0,.int .i64 0] 312)) #[.int .i64 0,.int .i64 0] 34).below (w:=(((w.alloc (.cells #[.int .i64 0,.int .i64 0,.int .i64 0] 312)).alloc (.cells #[.int .i64 0,.int .i64 0] 34)).drew)) XF Qvp;obtain⟨Tx,Tz,Tq,TW⟩:=k1.two;exact⟨Zh h0 XF.size,UW,QQ,QQ,QQ,QQ,uH,uG,uF,uE,Tj,Ty,Tx,Tz,Tq,TW⟩
theorem QVa{w w8:World}(XF:Below (((w.alloc (.cells #[.int .i64 0,.int .i64 0] 34)).alloc (.cells #[.int .i64 0,.int .i64 0,.int .i64 0] 312)).drew).heap.size (((w.alloc (.cells #[.int .i64 0,.int .i64 0] 34)).alloc (.cells #[.int .i64 0,.int .i64 0,.int .i64 0] 312)).drew) w8):w.heap.size<=w8.heap.size/\Below w.heap.size w w8/\w.heap.size<w8.heap.size/\w.heap.size+1<w8.heap.size/\w.heap.size≠w8.heap.size/\w8.heap.size≠w.heap.size/\w8.cell? ⟨w.heap.size,0,none⟩=some (.int .i64 0)/\w8.cell? ⟨w.heap.size,1,none⟩=some (.int .i64 0)/\w8.frozen? ⟨w.heap.size,0,none⟩=false/\w8.frozen? ⟨w.heap.size,1,none⟩=false/\w8.cell? ⟨w.heap.size+1,0,none⟩=some (.int .i64 0)/\w8.cell? ⟨w.heap.size+1,1,none⟩=some (.int .i64 0)/\w8.cell? ⟨w.heap.size+1,2,none⟩=some (.int .i64 0)/\w8.frozen? ⟨w.heap.size+1,0,none⟩=false/\w8.frozen? ⟨w.heap.size+1,1,none⟩=false/\w8.frozen? ⟨w.heap.size+1,2,none⟩=false:=by
 have h0:w.heap.size<=(((w.alloc (.cells #[.int .i64 0,.int .i64 0] 34)).alloc (.cells #[.int .i64 0,.int .i64 0,.int .i64 0] 312)).drew).heap.size:=QAR;have h1:Below w.heap.size w (((w.alloc (.cells #[.int .i64 0,.int .i64 0] 34)).alloc (.cells #[.int .i64 0,.int .i64 0,.int .i64 0] 312)).drew):=(((ZH w.heap.size w).alloc (ZB _) _).alloc QAV _).drew;have UW:Below w.heap.size w w8:=h1.trans (XF.mono h0);have h9:w.heap.size+2<=w8.heap.size:=Qv8;have k0:Za w8 w.heap.size #[.int .i64 0,.int .i64 0] 34:=((Za.new w #[.int .i64 0,.int .i64 0] 34).alloc (.cells #[.int .i64 0,.int .i64 0,.int .i64 0] 312)).below (w:=(((w.alloc (.cells #[.int .i64 0,.int .i64 0] 34)).alloc (.cells #[.int .i64 0,.int .i64 0,.int .i64 0] 312)).drew)) XF Qvo;obtain⟨uH,uG,uF,uE⟩:=k0.two;have k1:Za w8 (w.heap.size+1) #[.int .i64 0,.int .i64 0,.int .i64 0] 312:=(show Za _ (w.heap.size+1) #[.int .i64 0,.int .i64 0,.int .i64 0] 312 from(Zv w (.cells #[.int .i64 0,.int .i64 0] 34))▸Za.new (w.alloc (.cells #[.int .i64 0,.int .i64 0] 34)) #[.int .i64 0,.int .i64 0,.int .i64 0] 312).below (w:=(((w.alloc (.cells #[.int .i64 0,.int .i64 0] 34)).alloc (.cells #[.int .i64 0,.int .i64 0,.int .i64 0] 312)).drew)) XF Qvo;obtain⟨Tx,Tz,Tq,TW,QYd,QYc⟩:=k1.three;exact⟨Zh h0 XF.size,UW,QQ,QQ,QQ,QQ,uH,uG,uF,uE,Tx,Tz,Tq,TW,QYd,QYc⟩
theorem mvQ{P B:Nat}{a:Option Addr}{n c:Nat}{k mk ct mg:Int}{w w1 w2:World}(hP:P<w.heap.size)(hB:B<w.heap.size)(h:w1.cell? ⟨P,0,none⟩=some (.slice a n c)/\w1.cell? ⟨P,1,none⟩=some (.int .i64 k)/\w1.cell? ⟨B,0,none⟩=some (.int .i64 mk)/\w1.cell? ⟨B,1,none⟩=some (.int .i64 ct)/\w1.cell? ⟨B,2,none⟩=some (.int .i64 mg)/\Below w.heap.size w w1)(hb:Below w1.heap.size w1 w2):w2.cell? ⟨P,0,none⟩=some (.slice a n c)/\w2.cell? ⟨P,1,none⟩=some (.int .i64 k)/\w2.cell? ⟨B,0,none⟩=some (.int .i64 mk)/\w2.cell? ⟨B,1,none⟩=some (.int .i64 ct)/\w2.cell? ⟨B,2,none⟩=some (.int .i64 mg)/\Below w.heap.size w w2:=by
 obtain⟨h1,h2,h3,h4,h5,h6⟩:=h;have hb':Below w.heap.size w1 w2:=hb.mono h6.size;exact⟨by rw[hb'.cell hP];exact h1,by rw[hb'.cell hP];exact h2,by rw[hb'.cell hB];exact h3,by rw[hb'.cell hB];exact h4,by rw[hb'.cell hB];exact h5,h6.trans hb'⟩
theorem R3(P:Nat)(us:List Value)(I:In)(hI:Je I)(s:St)(w:World)(h:DI P w us I s)(hf:s.fk=0\/zP s.fk=true):
  Calls Tryz.prog 248 #[.pointer (some ⟨P,0,none⟩)] w (Y1 P I (vT I s).1 (vT I s).2 w):=by
 have TZ:=h.TZ;have c64:=h.c64;have YE:=h.YE;have UB:=h.UB;have c31:=h.c31;have c32:=h.c32;have Kr:=h.Kr;have HI:=Zy hI;have HX:=Zy h;have qy:=h.lt;have HM:=Zy (show vT I s=vT I s from rfl);clear h hI;obtain⟨cm,O,p,Y,fk,fa,md,es⟩:=s;obtain⟨ct,rg,op,vb,ar⟩:=cm;dsimp only at TZ c64 YE UB c31 c32 Kr hf;obtain⟨mk,hmk⟩:∃mk,jK fk vb=mk:=⟨_,rfl⟩;obtain⟨mg,hmg⟩:∃mg,jU fk fa vb ar=mg:=⟨_,rfl⟩;obtain⟨me,hme⟩:∃me,Hl fk vb=me:=⟨_,rfl⟩;obtain⟨lk,hlk⟩:∃lk,LU fk vb=lk:=⟨_,rfl⟩;obtain⟨la,hla⟩:∃la,LW fa vb ar=la:=⟨_,rfl⟩;have FN:∀w1,Calls Tryz.prog 269 #[.agg #[.int .i64 fk,.int .i64 fa],.agg #[.int .i64 ct,.int .i64 rg,.int .i64 op,.int .i64 vb,.int .i64 ar]] w1 (UU mk ct mg lk la me w1):=fun w1=>by
  have:=Nq fk fa ⟨ct,rg,op,vb,ar⟩ w1 hf;dsimp only at this;rw[hmk,hmg,hme,hlk,hla]at this;exact this
 have HF:=Zy FN;have HV:=Zy (show _/\_/\_/\_/\_ from⟨hmk,hmg,hme,hlk,hla⟩);clear FN hmk hmg hme hlk hla hf HM;go_enter Tryz.func248,Tryz.ntmps248
 go_upto_region 1 with fail
 go_cut [3,4,5] (fun u v e wx=>∃B C,w.heap.size<=C/\u=.pointer (some ⟨B,0,none⟩)/\v=.pointer (some ⟨C,0,none⟩)/\e=.int .i64 me/\wx.cell? ⟨B,0,none⟩=some (.int .i64 mk)/\wx.cell? ⟨B,1,none⟩=some (.int .i64 ct)/\wx.cell? ⟨B,2,none⟩=some (.int .i64 mg)/\wx.cell? ⟨C,0,none⟩=some (.int .i64 lk)/\wx.cell? ⟨C,1,none⟩=some (.int .i64 la)/\Below w.heap.size w wx)
 case first=>
  have HS0:=Zy (show _/\_/\_/\_/\_/\_/\_/\_ from⟨TZ,c64,YE,UB,c31,c32,Kr,ZH w.heap.size w⟩);clear HX HI HV
  go_region_held3 (fun w'=>w'.cell? ⟨P,63,none⟩=some (.int .i64 fk)/\w'.cell? ⟨P,64,none⟩=some (.int .i64 fa)/\w'.cell? ⟨P,29,none⟩=some (.int .i64 ct)/\w'.cell? ⟨P,30,none⟩=some (.int .i64 rg)/\w'.cell? ⟨P,31,none⟩=some (.int .i64 op)/\w'.cell? ⟨P,32,none⟩=some (.int .i64 vb)/\w'.cell? ⟨P,33,none⟩=some (.int .i64 ar)/\Below w.heap.size w w') (first|(with_reducible assumption)|(refine QVT qy HS0.out ?_;repeat(first|(with_reducible assumption)|(with_reducible exact ZH _ _)|(with_reducible refine Below.drew ?_)|(with_reducible refine Below.alloc ?_ QS _)|(with_reducible refine Below.setCell ?_ QS _)))) (first|(go_at_call 269;(with_reducible show Calls _ _ _ (w.drew) _);refine(HF.out (w.drew)).mono ?_;rintro e w8 ⟨rfl,XF⟩;obtain⟨hq8,UW⟩:=QVe XF;clear XF)|(go_at_call 269;(with_reducible show Calls _ _ _ ((w.alloc (.cells #[.int .i64 0,.int .i64 0,.int .i64 0] 312)).drew) _);refine(HF.out ((w.alloc (.cells #[.int .i64 0,.int .i64 0,.int .i64 0] 312)).drew)).mono ?_;rintro e w8 ⟨rfl,XF⟩;obtain⟨hq8,UW,hs8,hs9,QZB,nZ,uH,uG,uF,uE,Tj,Ty⟩:=QVd XF;clear XF)|(go_at_call 269;(with_reducible show Calls _ _ _ ((w.alloc (.cells #[.int .i64 0,.int .i64 0] 34)).drew) _);refine(HF.out ((w.alloc (.cells #[.int .i64 0,.int .i64 0] 34)).drew)).mono ?_;rintro e w8 ⟨rfl,XF⟩;obtain⟨hq8,UW,hs8,hs9,QZB,nZ,uH,uG,uF,uE⟩:=QVc XF;clear XF)|(go_at_call 269;(with_reducible show Calls _ _ _ (((w.alloc (.cells #[.int .i64 0,.int .i64 0,.int .i64 0] 312)).alloc (.cells #[.int .i64 0,.int .i64 0] 34)).drew) _);refine(HF.out (((w.alloc (.cells #[.int .i64 0,.int .i64 0,.int .i64 0] 312)).alloc (.cells #[.int .i64 0,.int .i64 0] 34)).drew)).mono ?_;rintro e w8 ⟨rfl,XF⟩;obtain⟨hq8,UW,hs8,hs9,QZB,nZ,uH,uG,uF,uE,Tj,Ty,Tx,Tz,Tq,TW⟩:=QVb XF;clear XF)|(go_at_call 269;(with_reducible show Calls _ _ _ (((w.alloc (.cells #[.int .i64 0,.int .i64 0] 34)).alloc (.cells #[.int .i64 0,.int .i64 0,.int .i64 0] 312)).drew) _);refine(HF.out (((w.alloc (.cells #[.int .i64 0,.int .i64 0] 34)).alloc (.cells #[.int .i64 0,.int .i64 0,.int .i64 0] 312)).drew)).mono ?_;rintro e w8 ⟨rfl,XF⟩;obtain⟨hq8,UW,hs8,hs9,QZB,nZ,uH,uG,uF,uE,Tx,Tz,Tq,TW,QYd,QYc⟩:=QVa XF;clear XF))
  all_goals
   go_wp2;go_meet;rename_i hHeld;refine⟨_,_,QS,rfl,rfl,rfl,?_,?_,?_,?_,?_,hHeld.2.2.2.2.2.2.2⟩
   all_goals go_simp
 obtain⟨B,C,hC,rfl,rfl,rfl,b0,b1,b2,l0,l1,hb1⟩:=hcut;have h1:=HX.out.to hb1;clear TZ c64 YE UB c31 c32 Kr;have HPC:=Zy (show C≠P from QQ);by_cases he:me=0
 ·subst he
  have hT:=h1.sl HI.out;have c0:=h1.c0;have c1:=h1.c1;have c31:=h1.c31;have xE:=h1.xE;have TZ:=h1.TZ;have c64:=h1.c64;dsimp only at c31;have H1:=Zy h1;have hk4:I.k<=200:=by have:=HI.out.k1;have:=HI.out.top;omega
  have HK:yM (I.k:Int):=⟨QQ,QQ⟩;have HH:=Zy HK;by_cases h0:op=0
  ·subst h0
   obtain⟨A,hA⟩:∃A,uk I.t I.k mk ct mg false=A:=⟨_,rfl⟩;obtain⟨bb,hbb⟩:∃bb,NK I.t I.k mk ct mg false=bb:=⟨_,rfl⟩;obtain⟨E,hE⟩:∃E,zx I.t I.k mk ct mg false=E:=⟨_,rfl⟩;have GO:∀w2,Below wc.heap.size wc w2->Calls Tryz.prog 270 #[.slice I.a I.n I.c,.int .i64 (I.k:Int),.agg #[.int .i64 mk,.int .i64 ct,.int .i64 mg],.bool false] w2 (jh A bb E w2):=fun w2 hb=>by
    rw[<-hA,<-hbb,<-hE];exact WW I.a I.n I.c I.t I.k mk ct mg false w2 (hT.below hb) HI.out.len (by have:=HI.out.top;omega) HH.out
   have HGO:=Zy GO;have HV2:=Zy (show _/\_/\_ from⟨hA,hbb,hE⟩);clear GO hA hbb hE h1 hT;have RN:P<wc.heap.size:=H1.out.lt;have hBc:B<wc.heap.size:=XU b0;go_upto_region 5 with fail
   go_cut [6,8] (fun u e wx=>u=.int .i64 A/\e=.int .i64 E/\Below wc.heap.size wc wx)
   case first=>
    go_region_held3 (fun w'=>w'.cell? ⟨P,0,none⟩=some (.slice I.a I.n I.c)/\w'.cell? ⟨P,1,none⟩=some (.int .i64 (I.k:Int))/\w'.cell? ⟨B,0,none⟩=some (.int .i64 mk)/\w'.cell? ⟨B,1,none⟩=some (.int .i64 ct)/\w'.cell? ⟨B,2,none⟩=some (.int .i64 mg)/\Below wc.heap.size wc w') (first|exact⟨c0,c1,b0,b1,b2,(ZH _ _).drew⟩|assumption|exact mvQ RN hBc ‹_› ‹_›) (first|(go_at_call 270;refine(HGO.out _ (ZH _ _).drew).mono ?_;rintro e w8 ⟨rfl,XF⟩))
    all_goals
     go_wp2;go_meet;exact⟨rfl,rfl,((ZH _ _).drew).trans XF⟩
   obtain⟨rfl,rfl,hb2⟩:=hcut;have h2:=H1.out.to hb2;have d35:=h2.xE;have d63:=h2.TZ;have d64:=h2.c64;have f35:=h2.free 35;have f63:=h2.free 63;have f64:=h2.free 64;have d0:=l0;rw[<-hb2.cell (XU l0)]at d0;have d1:=l1;rw[<-hb2.cell (XU l1)]at d1;have HB2:=Zy ((Yx.of (P:=P) hb1).trans (Yx.of hb2));have H2:=Zy h2;clear h2 hb2 c0 c1 c31 xE TZ c64 b0 b1 b2 l0 l1 HF;by_cases hE0:E=0
   ·subst hE0
    have hmv:vT I ⟨⟨ct,rg,0,vb,ar⟩,O,p,Y,fk,fa,md,es⟩=(0,⟨⟨ct,rg,0,vb,ar⟩,O,A,Y,lk,la,md,es⟩):=by
     obtain⟨v1,v2,v3,v4,v5⟩:=HV.out;obtain⟨x1,x2,x3⟩:=HV2.out;unfold vT;dsimp only;rw[v1,v2,v3,v4,v5,if_neg QZ,if_pos rfl,x3,if_neg QZ,x1]
    have SE:=Zy hmv;clear hmv;go_upto_region 7 with fail
    go_region
    all_goals
     go_wp2;go_ret;rw[SE.out]
     first
      | exact⟨rfl,⟨_,((H2.out.drew.Uz A).aQ lk).Tw la⟩,HB2.out.drew.trans (((Yx.set _).trans (Yx.set _)).trans (Yx.set _))⟩
      | exact⟨rfl,⟨_,((H2.out.drew.aQ lk).Tw la).Uz A⟩,HB2.out.drew.trans (((Yx.set _).trans (Yx.set _)).trans (Yx.set _))⟩
   ·have n0:(E==0)=false:=by simpa using hE0
    have HE0:=Zy hE0;clear hE0;go_wp2;go_ret;have hmv:vT I ⟨⟨ct,rg,0,vb,ar⟩,O,p,Y,fk,fa,md,es⟩=(E,⟨⟨ct,rg,0,vb,ar⟩,O,p,Y,fk,fa,md,es⟩):=by
     obtain⟨v1,v2,v3,v4,v5⟩:=HV.out;obtain⟨x1,x2,x3⟩:=HV2.out;unfold vT;dsimp only;rw[v1,v2,v3,if_neg QZ,if_pos rfl,x3,if_pos HE0.out]
    rw[hmv];exact⟨rfl,⟨_,H2.out⟩,HB2.out⟩
  ·have nop:(op==0)=false:=by simpa using h0
   have I8:=Zy h0;clear h0;obtain⟨F,hF⟩:∃F,Pb I.t I.k mk ct mg=F:=⟨_,rfl⟩;obtain⟨T,tC⟩:∃T,au I.t I.k mk ct mg=T:=⟨_,rfl⟩;obtain⟨E,hE⟩:∃E,zx I.t I.k mk ct mg true=E:=⟨_,rfl⟩;have RA:∀w2,Below wc.heap.size wc w2->Calls Tryz.prog 271 #[.slice I.a I.n I.c,.int .i64 (I.k:Int),.agg #[.int .i64 mk,.int .i64 ct,.int .i64 mg]] w2 (NR F T E w2):=fun w2 hb=>by
    rw[<-hF,<-tC,<-hE];exact jW I.a I.n I.c I.t I.k mk ct mg w2 (hT.below hb) HI.out.len (by have:=HI.out.top;omega) HH.out
   have HBD:=Zy (show E=0->0<=F/\F<=T/\T<=(I.n:Int)from fun e=>by rw[<-hF,<-tC,<-HI.out.len];exact QY2 (hE.trans e));have HRA:=Zy RA;have HV2:=Zy (show _/\_/\_ from⟨hF,tC,hE⟩);clear RA hF tC hE h1 hT;have RN:P<wc.heap.size:=H1.out.lt;have hBc:B<wc.heap.size:=XU b0;go_upto_region 9 with fail
   go_cut [9,10,5] (fun u v e wx=>u=.int .i64 F/\v=.int .i64 T/\e=.int .i64 E/\Below wc.heap.size wc wx)
   case first=>
    go_region_held3 (fun w'=>w'.cell? ⟨P,0,none⟩=some (.slice I.a I.n I.c)/\w'.cell? ⟨P,1,none⟩=some (.int .i64 (I.k:Int))/\w'.cell? ⟨B,0,none⟩=some (.int .i64 mk)/\w'.cell? ⟨B,1,none⟩=some (.int .i64 ct)/\w'.cell? ⟨B,2,none⟩=some (.int .i64 mg)/\Below wc.heap.size wc w') (first|exact⟨c0,c1,b0,b1,b2,(ZH _ _).drew⟩|assumption|exact mvQ RN hBc ‹_› ‹_›) (first|(go_at_call 271;refine(HRA.out _ (ZH _ _).drew).mono ?_;rintro e w8 ⟨rfl,XF⟩))
    all_goals
     go_wp2;go_meet;exact⟨rfl,rfl,rfl,((ZH _ _).drew).trans XF⟩
   obtain⟨rfl,rfl,rfl,hb2⟩:=hcut;have h2:=H1.out.to hb2;have d0:=l0;rw[<-hb2.cell (XU l0)]at d0;have d1:=l1;rw[<-hb2.cell (XU l1)]at d1;have HB2:=Zy ((Yx.of (P:=P) hb1).trans (Yx.of hb2));have H2:=Zy h2;clear h2 hb2 c0 c1 c31 xE TZ c64 b0 b1 b2 l0 l1 HF;by_cases hE0:E=0
   ·subst hE0
    obtain⟨x1,x2,x3⟩:=HBD.out rfl;obtain⟨f,rfl⟩:=Z9 x1;obtain⟨g,rfl⟩:=Z9 (show 0<=T from QQ);have CT:=U7 P f g false us I HI.out _ wc H2.out QQ QQ;obtain⟨r1,r2,hr⟩:∃r1 r2,Cg I ⟨⟨ct,rg,op,vb,ar⟩,O,p,Y,fk,fa,md,es⟩ f g false=(r1,r2):=⟨_,_,rfl⟩;rw[hr]at CT;have yN:=Zy CT;have HR:=Zy hr;have D0:=Zy d0;have D1:=Zy d1;clear CT hr x1 x2 x3 d0 d1;by_cases hr0:r1=0
    ·subst hr0
     have hmv:vT I ⟨⟨ct,rg,op,vb,ar⟩,O,p,Y,fk,fa,md,es⟩=(0,{r2 with fk:=lk,fa:=la}):=by
      obtain⟨v1,v2,v3,v4,v5⟩:=HV.out;obtain⟨x1,x2,x3⟩:=HV2.out;unfold vT;dsimp only;rw[v1,v2,v3,v4,v5,if_neg QZ,if_neg I8.out,x3,if_neg QZ,x1,x2,Xq,Xq,HR.out];rfl
     have SE:=Zy hmv;clear hmv;go_wp2_with (go_at_call 250;go_loud (refine(yN.out).mono ?_;rintro e w9 ⟨rfl,⟨us9,h9⟩,Wq⟩;have g0:=Wq.cell HPC.out D0.out;have g1:=Wq.cell HPC.out D1.out;have TZ:=h9.TZ;have c64:=h9.c64;have f63:=h9.free 63;have f64:=h9.free 64;have H9:=Zy h9;clear h9))
     go_ret;rw[SE.out];exact⟨rfl,⟨_,(H9.out.aQ lk).Tw la⟩,(HB2.out.trans Wq).trans ((Yx.set _).trans (Yx.set _))⟩
    ·have n0:(r1 !=0)=true:=by simpa using hr0
     have Ja:=Zy hr0;clear hr0;go_wp2_with (go_at_call 250;go_loud (refine(yN.out).mono ?_;rintro e w9 ⟨rfl,cz,Wq⟩))
     go_ret;have hmv:vT I ⟨⟨ct,rg,op,vb,ar⟩,O,p,Y,fk,fa,md,es⟩=(r1,r2):=by
      obtain⟨v1,v2,v3,v4,v5⟩:=HV.out;obtain⟨x1,x2,x3⟩:=HV2.out;unfold vT;dsimp only;rw[v1,v2,v3,if_neg QZ,if_neg I8.out,x3,if_neg QZ,x1,x2,Xq,Xq,HR.out];dsimp only;rw[if_pos Ja.out]
     rw[hmv];exact⟨rfl,cz,HB2.out.trans Wq⟩
   ·have n0:(E !=0)=true:=by simpa using hE0
    have HE0:=Zy hE0;clear hE0;go_wp2;go_ret;have hmv:vT I ⟨⟨ct,rg,op,vb,ar⟩,O,p,Y,fk,fa,md,es⟩=(E,⟨⟨ct,rg,op,vb,ar⟩,O,p,Y,fk,fa,md,es⟩):=by
     obtain⟨v1,v2,v3,v4,v5⟩:=HV.out;obtain⟨x1,x2,x3⟩:=HV2.out;unfold vT;dsimp only;rw[v1,v2,v3,if_neg QZ,if_neg I8.out,x3,if_pos HE0.out]
    rw[hmv];exact⟨rfl,⟨_,H2.out⟩,HB2.out⟩
 ·have n0:(me !=0)=true:=by simpa using he
  have H1:=Zy h1;have HE:=Zy he;clear he h1;go_wp2;go_ret;obtain⟨v1,v2,v3,v4,v5⟩:=HV.out;have hmv:vT I ⟨⟨ct,rg,op,vb,ar⟩,O,p,Y,fk,fa,md,es⟩=(me,⟨⟨ct,rg,op,vb,ar⟩,O,p,Y,fk,fa,md,es⟩):=by
   unfold vT;dsimp only;rw[v3,if_pos HE.out]
  rw[hmv];exact⟨rfl,⟨_,H1.out⟩,Yx.of hb1⟩
def UF(xs out:List Int)(m:Nat):Prop:=∀i,i<m->ix out i=ix xs (i % xs.length)
theorem u7(out ys:List Int)(m:Nat):splice (out.map (Value.int .i64)) m (ys.map (Value.int .i64))=(splice out m ys).map (Value.int .i64):=by simp[splice]
theorem MZ(out ys:List Int)(m i:Nat)(hm:m<=out.length)(hi:i<m):ix (splice out m ys) i=ix out i:=by
 unfold splice;rw[YN QY,Yw QY,Yw (show i<out.length from QQ)];simp
theorem uo(out ys:List Int)(m i:Nat)(hm:m<=out.length)(hi:i<ys.length):ix (splice out m ys) (m+i)=ix ys i:=by
 unfold splice;have:(out.take m).length=m:=QY;rw[show m+i=(out.take m).length+i from by rw[this],KN,YN hi]
theorem UF.first{xs out:List Int}(h:xs.length<=out.length):UF xs (splice out 0 xs) xs.length:=fun i hi=>by
 have:=uo out xs 0 i (Z0 _) hi;rw[XN]at this;rw[this,Nat.mod_eq_of_lt hi]
theorem UF.more{xs out:List Int}{m d q:Nat}(h:UF xs out m)(hm:m<=out.length)(hd:d<=m)(hq:m=xs.length*q):UF xs (splice out m (out.take d)) (m+d):=fun i hi=>by
 by_cases h1:i<m
 ·rw[MZ _ _ _ _ hm h1];exact h i h1
 ·obtain⟨j,rfl⟩:∃j,i=m+j:=⟨i-m,QQ⟩
  have hj:j<(out.take d).length:=QY;rw[uo _ _ _ _ hm hj,Yw hj,List.getElem_take,<-Yw,h j QQ,hq,Nat.mul_add_mod]
theorem UF.all{xs out:List Int}{k:Nat}(h:UF xs out (xs.length*k))(hl:out.length=xs.length*k):out=qJ xs k:=by
 refine zt (by rw[hl,qG]) fun i hi=>?_
 rw[h i QQ,lW _ _ _ QQ]
theorem OX:(Tryz.prog.info? 3).map (·.size)=some 1:=by
 obtain⟨i0,hi,hz0,hz1,hz2⟩:=Xf JI;rw[hi];simp[hz1]
theorem Hd{ys:List Int}:∀v∈ys.map (Value.int .i64),v.oneCell'=true:=by
 intro u hu;obtain⟨y,_,rfl⟩:=List.mem_map.1 hu;rfl
theorem Ints.src{w:World}{a:Option Addr}{ys:List Int}(h:Ints w a ys)(hp:0<ys.length):∃ad,a=some ad/\∀j v,(ys.map (Value.int .i64))[j]? =some v->w.cell? (ad.add j)=some v:=by
 rcases h with h|⟨b,o',ha,hc⟩
 ·subst h;simp at hp
 ·refine⟨_,ha,fun j v hj=>?_⟩
  have hlt:j<ys.length:=by
   exact QFy
  exact QEQ
theorem vI{w:World}{g base:Nat}{xs:List Int}{e:TypeId}(h:Za w g (xs.map (Value.int .i64)).toArray e)(hb:base<=g)(hl:xs.length<=17592186044416):Own e base w (.slice (some ⟨g,0,none⟩) xs.length xs.length) xs:=
 ⟨QJ,.inr ⟨g,xs.length,_,rfl,hb,h,ZB _,Qo,QJ,by rw[Nat.mul_one,XV QJ]⟩⟩
def pE(xs:List Int)(k:Nat)(w:World)(e:Ending)(w':World):Prop:=∃v,e=.returned v/\Own 3 w.heap.size w' v (qJ xs k)/\Below w.heap.size w w'
theorem Vh(a:Option Addr)(n c k:Nat)(xs:List Int)(w:World)(ha:Ints w a xs)(hn:xs.length=n)(hk:k<=4096)(hl:n<=4096):
  Calls Tryz.prog 63 #[.slice a n c,.int .i64 (k:Int)] w (pE xs k w):=by
 have HN:=Zy hn;clear hn;have hT:n*k<=16777216:=Nat.mul_le_mul hl hk;have hlo:n*k % 18446744073709551616=n*k:=Nat.mod_eq_of_lt QQ;have hhi:n*k / 18446744073709551616=0:=Nat.div_eq_of_lt QQ;obtain⟨T,hTe⟩:∃T,T=n*k:=⟨_,rfl⟩;have hmk:=yX T T (ZB _) QQ;have tC:T<=16777216:=QQ;have hnT:T=0\/1<=n/\1<=k/\n<=T:=by
  rcases XM k with rfl|hk1
  ·left;simpa using hTe
  ·rcases XM n with rfl|hn1
   ·left;simpa using hTe
   ·right;exact⟨hn1,hk1,by rw[hTe];exact Nat.le_mul_of_pos_right _ hk1⟩
 have hB:=Za.new w ((List.replicate T (0:Int)).map (Value.int .i64)).toArray 3;rw[<-uW]at hB;have hb1:=ZT w (.cells (madeCells #[.int .i64 0] T) 3);have hd:(xs.take (min n T)).length=Nat.min n T:=by rw[Zp,HN.out];show min (min n T) n=min n T;omega
 obtain⟨ys,hys⟩:∃ys,ys=xs.take (min n T):=⟨_,rfl⟩;have hsrc:=(show Ints w a ys by rw[hys];exact ha.take _).below hb1;have HD:=Zy (show ys.length=Nat.min n T by rw[hys];exact hd);have HYS:=Zy hys;have hdT:Nat.min n T<=T:=Nat.min_le_right _ _;have HNT:=Zy hnT;clear hd hys;go_enter Tryz.func63,Tryz.ntmps63
 go_wp2_with fail
 refine(fZ n k QQ QQ w).mono ?_;rintro e w' ⟨rfl,rfl⟩;rw[hhi,hlo,<-hTe];have HTE:=Zy hTe;clear hlo hhi hTe hnT hT;go_wp2_with (show wpList _ _ _ (⟨some 33,_,_,_,_,_⟩::_) _ _;revert HYS)
 intro HYS
 (refine wpList_copy_splice (o:=⟨some 33,_,_,_,_,_⟩) rfl _ _ _ _ rfl 3 Tryz.underlying26 OX _ _ _ _ _ _ rfl rfl w'.heap.size 0 ((List.replicate T (0:Int)).map (Value.int .i64)) 3 (by have h:=hB;unfold Za at h;rw[h,uW]) (ys.map (Value.int .i64)) (by rw[YZ];exact HD.out) (fun hp=>⟨rfl,hsrc.src QBi⟩) (by simp;rw[HD.out];exact hdT) Hd w'.heap.size w' hb1 (ZB _) ?_;intro w2 hw2 hb2)
 clear hb1 hB hmk hsrc;rw[YZ,HD.out];obtain⟨d,hdd⟩:∃d,Nat.min n T=d:=⟨_,rfl⟩;rw[hdd]at hdT ⊢;have hrow:Hid (∃out:List Int,w2.heap[w'.heap.size]? =some (.cells (out.map (Value.int .i64)).toArray 3 (0,0))/\out.length=T/\UF xs out d/\(d<T->0<d/\∃q,d=n*q)):=Zy (by
  have h:=hw2.out;rw[u7]at h;refine⟨_,h,by rw[length_splice _ _ _ (by rw[HD.out,hdd];simpa using hdT)];simp,?_,?_⟩
  ·rcases HNT.out with h0|⟨h1,h2,h3⟩
   ·have:d=0:=by omega
    subst this;intro i hi;omega
   ·have hd:d=n:=by rw[<-hdd];exact Yb h3
    have:ys=xs:=by rw[HYS.out,Yb h3,<-HN.out,List.take_length]
    subst this;rw[hd,<-HN.out];exact UF.first (by simp;rw[HN.out];exact h3)
  ·intro hlt
   rcases HNT.out with h0|⟨h1,h2,h3⟩
   ·omega
   ·have hd:d=n:=by rw[<-hdd];exact Yb h3
    exact⟨QQ,1,QQ⟩)
 clear hw2 hdd HD HYS;go_wp2
 go_loopw [8] (fun i wr=>∃(m:Nat) (out:List Int),i=.int .i64 (m:Int)/\m<=T/\Za wr w'.heap.size (out.map (Value.int .i64)).toArray 3/\out.length=T/\UF xs out m/\(m<T->0<m/\∃q,m=n*q)/\Below w'.heap.size w' wr) (fun i _=>T-(intOf i).toNat)
 case atStart=>
  obtain⟨out,h1,h2,h3,h4⟩:=hrow.out;exact⟨d,out,rfl,hdT,h1,h2,h3,h4,hb2⟩
 case round=>
  obtain⟨m,out,rfl,hm,hB,hol,hfil,hq,hbel⟩:=hrel;have Ng:=Zy hol;have HF:=Zy hfil;have HQ:=Zy hq;clear hrow hb2 hol hfil hq;by_cases hlt:m<T
  ·have hm0:=(HQ.out hlt).1
   have i1:(m:Int)<(T:Int):=QQ;have i3:¬T=m:=QQ;have hel:(out.take (Nat.min m (T-m))).length=Nat.min m (T-m):=by rw[Zp,Ng.out];show min (min m (T-m)) T=min m (T-m);omega
   obtain⟨zs,hzs⟩:∃zs,zs=out.take (Nat.min m (T-m)):=⟨_,rfl⟩;rw[<-hzs]at hel;have HEL:=Zy hel;have HZ:=Zy hzs;have hIz:Ints wr (some ⟨w'.heap.size,0,none⟩) zs:=by rw[hzs];exact(AZ hB).take _
   have hle:zs.length<=T-m:=by rw[hel];exact Nat.min_le_right _ _
   clear hel hzs;go_wp2
   go_region_law (refine step_copy_splice rfl (.tmp 41) (.tmp 44) _ _ rfl 3 Tryz.underlying26 OX (some ⟨w'.heap.size,m,none⟩) (some ⟨w'.heap.size,0,none⟩) (T-m) (T-m) m T (by simp[Act.eval,Act.put,i3]) (by simp[Act.eval,Act.put,i3]) w'.heap.size m (out.map (Value.int .i64)) 3 hB (zs.map (Value.int .i64)) (by rw[YZ];exact HEL.out) (fun hp=>⟨rfl,hIz.drew.src QBi⟩) (by rw[YZ,YZ,Ng.out];omega) Hd w'.heap.size w' hbel.drew (ZB _) ?_;intro w4 hg4 hb4)
   all_goals
    have hg:=hg4.out;rw[u7]at hg;have hz:zs=out.take zs.length:=by rw[HEL.out];exact HZ.out
    have hzm:zs.length<=m:=by rw[HEL.out];exact Nat.min_le_left _ _
    have hzT:zs.length=m\/zs.length=T-m:=by rw[HEL.out];show min m (T-m)=m\/min m (T-m)=T-m;omega
    have hlen:(splice out m zs).length=T:=by rw[length_splice _ _ _ (by rw[Ng.out];omega)];exact Ng.out
    obtain⟨q,hq⟩:=(HQ.out hlt).2;have hfl:UF xs (splice out m zs) (m+zs.length):=by
     rw[hz];have:=UF.more (xs:=xs) (q:=q) HF.out (by rw[Ng.out];exact hm) hzm (by rw[HN.out];exact hq);have e:(out.take zs.length).length=zs.length:=by rw[<-hz]
     rw[e];exact this
    have H1:=Zy hg;have H2:=Zy hlen;have H3:=Zy hfl;have H4:Hid (m+zs.length<T->0<m+zs.length/\∃q,m+zs.length=n*q):=Zy (fun hl=>⟨QQ,2*q,by rcases hzT with h|h;(·rw[h,hq,<-Nat.two_mul,Nat.mul_left_comm]);(·omega)⟩);have hzp:0<zs.length:=QQ;clear hg hg4 hz hlen hq hfl hzT;have iw:IntKind.i64.wrap ((m:Int)+(zs.length:Int))=((m+zs.length:Nat):Int):=QAz;go_simp;go_roundw
    case rel=>
     exact⟨_,_,_,_,_,_,_,_,_,_,_,_,_,_,⟨m+zs.length,splice out m zs,Qk,QQ,H1.out,H2.out,H3.out,H4.out,hb4⟩,rfl⟩
    case measure=>simp[intOf];omega
  ·have hmT:m=T:=by omega
   subst hmT;go_wp2;go_ret;refine⟨_,rfl,?_,hbel⟩;have he:out=qJ xs k:=UF.all (by rw[HN.out,<-HTE.out];exact HF.out) (by rw[HN.out,<-HTE.out];exact Ng.out);rw[<-he];have:=vI hB (ZB _) (by rw[Ng.out];omega)
   rwa[Ng.out]at this
end Go.Proofs.YtmdcencmiopmmaaGreat
