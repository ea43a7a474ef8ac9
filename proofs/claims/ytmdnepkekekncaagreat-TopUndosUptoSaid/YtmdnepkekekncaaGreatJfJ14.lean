/- joined, no condition of its own. -/
import Derived.Test.YtmdnepkekekncaaGreatJfJ13
set_option linter.unusedVariables false
set_option linter.unusedSimpArgs false
set_option maxRecDepth 100000
set_option maxHeartbeats 12000000
namespace Go.Proofs.YtmdnepkekekncaaGreat
open Go.RowKit
theorem QzA{P:Nat}{fk fa ct rg op vb ar:Int}{w w1:World}{w2:World}(hP:P<w.heap.size)(h:w1.cell? ⟨P,63,none⟩=some (.int .i64 fk)/\w1.cell? ⟨P,64,none⟩=some (.int .i64 fa)/\w1.cell? ⟨P,29,none⟩=some (.int .i64 ct)/\w1.cell? ⟨P,30,none⟩=some (.int .i64 rg)/\w1.cell? ⟨P,31,none⟩=some (.int .i64 op)/\w1.cell? ⟨P,32,none⟩=some (.int .i64 vb)/\w1.cell? ⟨P,33,none⟩=some (.int .i64 ar)/\Below w.heap.size w w1)(hb:Below w.heap.size w1 w2):w2.cell? ⟨P,63,none⟩=some (.int .i64 fk)/\w2.cell? ⟨P,64,none⟩=some (.int .i64 fa)/\w2.cell? ⟨P,29,none⟩=some (.int .i64 ct)/\w2.cell? ⟨P,30,none⟩=some (.int .i64 rg)/\w2.cell? ⟨P,31,none⟩=some (.int .i64 op)/\w2.cell? ⟨P,32,none⟩=some (.int .i64 vb)/\w2.cell? ⟨P,33,none⟩=some (.int .i64 ar)/\Below w.heap.size w w2:=
 ⟨QE5,by rw[hb.cell hP];exact h.2.1,by rw[hb.cell hP];exact h.2.2.1,by rw[hb.cell hP];exact h.2.2.2.1,by rw[hb.cell hP];exact h.2.2.2.2.1,by rw[hb.cell hP];exact h.2.2.2.2.2.1,by rw[hb.cell hP];exact h.2.2.2.2.2.2.1,h.2.2.2.2.2.2.2.trans hb⟩
theorem QzF{w w8:World}(XH:Below (w.drew).heap.size (w.drew) w8):w.heap.size<=w8.heap.size/\Below w.heap.size w w8:=by
 have h0:w.heap.size<=(w.drew).heap.size:=QDh;have h1:Below w.heap.size w (w.drew):=(ZH w.heap.size w).drew;have Uq:Below w.heap.size w w8:=h1.trans (XH.mono h0);exact⟨Zf h0 XH.size,Uq⟩
theorem QzE{w w8:World}(XH:Below ((w.alloc (.cells #[.int .i64 0,.int .i64 0,.int .i64 0] 243)).drew).heap.size ((w.alloc (.cells #[.int .i64 0,.int .i64 0,.int .i64 0] 243)).drew) w8):w.heap.size<=w8.heap.size/\Below w.heap.size w w8/\w.heap.size<w8.heap.size/\w.heap.size+0<w8.heap.size/\w.heap.size≠w8.heap.size/\w8.heap.size≠w.heap.size/\w8.cell? ⟨w.heap.size,0,none⟩=some (.int .i64 0)/\w8.cell? ⟨w.heap.size,1,none⟩=some (.int .i64 0)/\w8.cell? ⟨w.heap.size,2,none⟩=some (.int .i64 0)/\w8.frozen? ⟨w.heap.size,0,none⟩=false/\w8.frozen? ⟨w.heap.size,1,none⟩=false/\w8.frozen? ⟨w.heap.size,2,none⟩=false:=by
 have h0:w.heap.size<=((w.alloc (.cells #[.int .i64 0,.int .i64 0,.int .i64 0] 243)).drew).heap.size:=QDh;have h1:Below w.heap.size w ((w.alloc (.cells #[.int .i64 0,.int .i64 0,.int .i64 0] 243)).drew):=((ZH w.heap.size w).alloc (ZB _) _).drew;have Uq:Below w.heap.size w w8:=h1.trans (XH.mono h0);have h9:w.heap.size+1<=w8.heap.size:=QDx;have k0:Za w8 w.heap.size #[.int .i64 0,.int .i64 0,.int .i64 0] 243:=(Za.new w #[.int .i64 0,.int .i64 0,.int .i64 0] 243).below (w:=((w.alloc (.cells #[.int .i64 0,.int .i64 0,.int .i64 0] 243)).drew)) XH (by show _<((w.alloc (.cells #[.int .i64 0,.int .i64 0,.int .i64 0] 243)).drew).heap.size;simp only[XA,Zu];omega);obtain⟨vR,vO,vN,vM,dZ,dQ⟩:=k0.three;exact⟨Zf h0 XH.size,Uq,QQ,QQ,QQ,QQ,vR,vO,vN,vM,dZ,dQ⟩
theorem QzD{w w8:World}(XH:Below ((w.alloc (.cells #[.int .i64 0,.int .i64 0] 46)).drew).heap.size ((w.alloc (.cells #[.int .i64 0,.int .i64 0] 46)).drew) w8):w.heap.size<=w8.heap.size/\Below w.heap.size w w8/\w.heap.size<w8.heap.size/\w.heap.size+0<w8.heap.size/\w.heap.size≠w8.heap.size/\w8.heap.size≠w.heap.size/\w8.cell? ⟨w.heap.size,0,none⟩=some (.int .i64 0)/\w8.cell? ⟨w.heap.size,1,none⟩=some (.int .i64 0)/\w8.frozen? ⟨w.heap.size,0,none⟩=false/\w8.frozen? ⟨w.heap.size,1,none⟩=false:=by
 have h0:w.heap.size<=((w.alloc (.cells #[.int .i64 0,.int .i64 0] 46)).drew).heap.size:=QDh;have h1:Below w.heap.size w ((w.alloc (.cells #[.int .i64 0,.int .i64 0] 46)).drew):=((ZH w.heap.size w).alloc (ZB _) _).drew;have Uq:Below w.heap.size w w8:=h1.trans (XH.mono h0);have h9:w.heap.size+1<=w8.heap.size:=QDx;have k0:Za w8 w.heap.size #[.int .i64 0,.int .i64 0] 46:=(Za.new w #[.int .i64 0,.int .i64 0] 46).below (w:=((w.alloc (.cells #[.int .i64 0,.int .i64 0] 46)).drew)) XH (by show _<((w.alloc (.cells #[.int .i64 0,.int .i64 0] 46)).drew).heap.size;simp only[XA,Zu];omega);obtain⟨vR,vO,vN,vM⟩:=k0.two;exact⟨Zf h0 XH.size,Uq,QQ,QQ,QQ,QQ,vR,vO,vN,vM⟩
theorem QzC{w w8:World}(XH:Below (((w.alloc (.cells #[.int .i64 0,.int .i64 0,.int .i64 0] 243)).alloc (.cells #[.int .i64 0,.int .i64 0] 46)).drew).heap.size (((w.alloc (.cells #[.int .i64 0,.int .i64 0,.int .i64 0] 243)).alloc (.cells #[.int .i64 0,.int .i64 0] 46)).drew) w8):w.heap.size<=w8.heap.size/\Below w.heap.size w w8/\w.heap.size<w8.heap.size/\w.heap.size+1<w8.heap.size/\w.heap.size≠w8.heap.size/\w8.heap.size≠w.heap.size/\w8.cell? ⟨w.heap.size,0,none⟩=some (.int .i64 0)/\w8.cell? ⟨w.heap.size,1,none⟩=some (.int .i64 0)/\w8.cell? ⟨w.heap.size,2,none⟩=some (.int .i64 0)/\w8.frozen? ⟨w.heap.size,0,none⟩=false/\w8.frozen? ⟨w.heap.size,1,none⟩=false/\w8.frozen? ⟨w.heap.size,2,none⟩=false/\w8.cell? ⟨w.heap.size+1,0,none⟩=some (.int .i64 0)/\w8.cell? ⟨w.heap.size+1,1,none⟩=some (.int .i64 0)/\w8.frozen? ⟨w.heap.size+1,0,none⟩=false/\w8.frozen? ⟨w.heap.size+1,1,none⟩=false:=by
 have h0:w.heap.size<=(((w.alloc (.cells #[.int .i64 0,.int .i64 0,.int .i64 0] 243)).alloc (.cells #[.int .i64 0,.int .i64 0] 46)).drew).heap.size:=QDh;have h1:Below w.heap.size w (((w.alloc (.cells #[.int .i64 0,.int .i64 0,.int .i64 0] 243)).alloc (.cells #[.int .i64 0,.int .i64 0] 46)).drew):=(((ZH w.heap.size w).alloc (ZB _) _).alloc QDV _).drew;have Uq:Below w.heap.size w w8:=h1.trans (XH.mono h0);have h9:w.heap.size+2<=w8.heap.size:=QDx;have k0:Za w8 w.heap.size #[.int .i64 0,.int .i64 0,.int .i64 0] 243:=((Za.new w #[.int .i64 0,.int .i64 0,.int .i64 0] 243).alloc (.cells #[.int .i64 0,.int .i64 0] 46)).below (w:=(((w.alloc (.cells #[.int .i64 0,.int .i64 0,.int .i64 0] 243)).alloc (.cells #[.int .i64 0,.int .i64 0] 46)).drew)) XH QC6;obtain⟨vR,vO,vN,vM,dZ,dQ⟩:=k0.three;have k1:Za w8 (w.heap.size+1) #[.int .i64 0,.int .i64 0] 46:=(show Za _ (w.heap.size+1) #[.int .i64 0,.int .i64 0] 46 from(Zu w (.cells #[.int .i64 0,.int .i64 0,.int .i64 0] 243))▸Za.new (w.alloc (.cells #[.int .i64 0,.int .i64 0,.int .i64 0] 243)) #[.int .i64 0,.int .i64 0] 46).below (w:=(((w.alloc (.cells #[.int .i64 0,.int .i64 0,.int .i64 0] 243)).alloc (.cells #[.int .i64 0,.int .i64 0] 46)).drew)) XH QC6;obtain⟨cO,cB,cu,cz⟩:=k1.two;exact⟨Zf h0 XH.size,Uq,QQ,QQ,QQ,QQ,vR,vO,vN,vM,dZ,dQ,cO,cB,cu,cz⟩
theorem QzB{w w8:World}(XH:Below (((w.alloc (.cells #[.int .i64 0,.int .i64 0] 46)).alloc (.cells #[.int .i64 0,.int .i64 0,.int .i64 0] 243)).drew).heap.size (((w.alloc (.cells #[.int .i64 0,.int .i64 0] 46)).alloc (.cells #[.int .i64 0,.int .i64 0,.int .i64 0] 243)).drew) w8):w.heap.size<=w8.heap.size/\Below w.heap.size w w8/\w.heap.size<w8.heap.size/\w.heap.size+1<w8.heap.size/\w.heap.size≠w8.heap.size/\w8.heap.size≠w.heap.size/\w8.cell? ⟨w.heap.size,0,none⟩=some (.int .i64 0)/\w8.cell? ⟨w.heap.size,1,none⟩=some (.int .i64 0)/\w8.frozen? ⟨w.heap.size,0,none⟩=false/\w8.frozen? ⟨w.heap.size,1,none⟩=false/\w8.cell? ⟨w.heap.size+1,0,none⟩=some (.int .i64 0)/\w8.cell? ⟨w.heap.size+1,1,none⟩=some (.int .i64 0)/\w8.cell? ⟨w.heap.size+1,2,none⟩=some (.int .i64 0)/\w8.frozen? ⟨w.heap.size+1,0,none⟩=false/\w8.frozen? ⟨w.heap.size+1,1,none⟩=false/\w8.frozen? ⟨w.heap.size+1,2,none⟩=false:=by
 have h0:w.heap.size<=(((w.alloc (.cells #[.int .i64 0,.int .i64 0] 46)).alloc (.cells #[.int .i64 0,.int .i64 0,.int .i64 0] 243)).drew).heap.size:=QDh;have h1:Below w.heap.size w (((w.alloc (.cells #[.int .i64 0,.int .i64 0] 46)).alloc (.cells #[.int .i64 0,.int .i64 0,.int .i64 0] 243)).drew):=(((ZH w.heap.size w).alloc (ZB _) _).alloc QDV _).drew;have Uq:Below w.heap.size w w8:=h1.trans (XH.mono h0);have h9:w.heap.size+2<=w8.heap.size:=QDx;have k0:Za w8 w.heap.size #[.int .i64 0,.int .i64 0] 46:=((Za.new w #[.int .i64 0,.int .i64 0] 46).alloc (.cells #[.int .i64 0,.int .i64 0,.int .i64 0] 243)).below (w:=(((w.alloc (.cells #[.int .i64 0,.int .i64 0] 46)).alloc (.cells #[.int .i64 0,.int .i64 0,.int .i64 0] 243)).drew)) XH QC5;obtain⟨vR,vO,vN,vM⟩:=k0.two;have k1:Za w8 (w.heap.size+1) #[.int .i64 0,.int .i64 0,.int .i64 0] 243:=(show Za _ (w.heap.size+1) #[.int .i64 0,.int .i64 0,.int .i64 0] 243 from(Zu w (.cells #[.int .i64 0,.int .i64 0] 46))▸Za.new (w.alloc (.cells #[.int .i64 0,.int .i64 0] 46)) #[.int .i64 0,.int .i64 0,.int .i64 0] 243).below (w:=(((w.alloc (.cells #[.int .i64 0,.int .i64 0] 46)).alloc (.cells #[.int .i64 0,.int .i64 0,.int .i64 0] 243)).drew)) XH QC5;obtain⟨cO,cB,cu,cz,QKw,QK9⟩:=k1.three;exact⟨Zf h0 XH.size,Uq,QQ,QQ,QQ,QQ,vR,vO,vN,vM,cO,cB,cu,cz,QKw,QK9⟩
theorem mvQ{P B:Nat}{a:Option Addr}{n c:Nat}{k mk ct mg:Int}{w w1 w2:World}(hP:P<w.heap.size)(hB:B<w.heap.size)(h:w1.cell? ⟨P,0,none⟩=some (.slice a n c)/\w1.cell? ⟨P,1,none⟩=some (.int .i64 k)/\w1.cell? ⟨B,0,none⟩=some (.int .i64 mk)/\w1.cell? ⟨B,1,none⟩=some (.int .i64 ct)/\w1.cell? ⟨B,2,none⟩=some (.int .i64 mg)/\Below w.heap.size w w1)(hb:Below w1.heap.size w1 w2):w2.cell? ⟨P,0,none⟩=some (.slice a n c)/\w2.cell? ⟨P,1,none⟩=some (.int .i64 k)/\w2.cell? ⟨B,0,none⟩=some (.int .i64 mk)/\w2.cell? ⟨B,1,none⟩=some (.int .i64 ct)/\w2.cell? ⟨B,2,none⟩=some (.int .i64 mg)/\Below w.heap.size w w2:=by
 obtain⟨h1,h2,h3,h4,h5,h6⟩:=h;have hb':Below w.heap.size w1 w2:=hb.mono h6.size;exact⟨by rw[hb'.cell hP];exact h1,by rw[hb'.cell hP];exact h2,by rw[hb'.cell hB];exact h3,by rw[hb'.cell hB];exact h4,by rw[hb'.cell hB];exact h5,h6.trans hb'⟩
theorem aF(P:Nat)(us:List Value)(I:In)(hI:Je I)(s:St)(w:World)(h:DI P w us I s)(hf:s.fk=0\/zA s.fk=true):
  Calls Tryz.prog 153 #[.pointer (some ⟨P,0,none⟩)] w (Y5 P I (BJ I s).1 (BJ I s).2 w):=by
 have bT:=h.bT;have c64:=h.c64;have YI:=h.YI;have UE:=h.UE;have c31:=h.c31;have c32:=h.c32;have Ko:=h.Ko;have HI:=Zy hI;have HX:=Zy h;have qd:=h.lt;have HM:=Zy (show BJ I s=BJ I s from rfl);clear h hI;obtain⟨cm,O,p,Y,fk,fa,md,es⟩:=s;obtain⟨ct,rg,op,vb,ar⟩:=cm;dsimp only at bT c64 YI UE c31 c32 Ko hf;obtain⟨mk,hmk⟩:∃mk,jh fk vb=mk:=⟨_,rfl⟩;obtain⟨mg,hmg⟩:∃mg,ji fk fa vb ar=mg:=⟨_,rfl⟩;obtain⟨me,hme⟩:∃me,LC fk vb=me:=⟨_,rfl⟩;obtain⟨lk,hlk⟩:∃lk,Mf fk vb=lk:=⟨_,rfl⟩;obtain⟨la,hla⟩:∃la,Mg fa vb ar=la:=⟨_,rfl⟩;have FN:∀w1,Calls Tryz.prog 160 #[.agg #[.int .i64 fk,.int .i64 fa],.agg #[.int .i64 ct,.int .i64 rg,.int .i64 op,.int .i64 vb,.int .i64 ar]] w1 (UW mk ct mg lk la me w1):=fun w1=>by
  have:=Og fk fa ⟨ct,rg,op,vb,ar⟩ w1 hf;dsimp only at this;rw[hmk,hmg,hme,hlk,hla]at this;exact this
 have HF:=Zy FN;have HV:=Zy (show _/\_/\_/\_/\_ from⟨hmk,hmg,hme,hlk,hla⟩);clear FN hmk hmg hme hlk hla hf HM;go_enter Tryz.func153,Tryz.ntmps153
 go_upto_region 1 with fail
 go_cut [3,4,5] (fun u v e wx=>∃B C,w.heap.size<=C/\u=.pointer (some ⟨B,0,none⟩)/\v=.pointer (some ⟨C,0,none⟩)/\e=.int .i64 me/\wx.cell? ⟨B,0,none⟩=some (.int .i64 mk)/\wx.cell? ⟨B,1,none⟩=some (.int .i64 ct)/\wx.cell? ⟨B,2,none⟩=some (.int .i64 mg)/\wx.cell? ⟨C,0,none⟩=some (.int .i64 lk)/\wx.cell? ⟨C,1,none⟩=some (.int .i64 la)/\Below w.heap.size w wx)
 case first=>
  have HS0:=Zy (show _/\_/\_/\_/\_/\_/\_/\_ from⟨bT,c64,YI,UE,c31,c32,Ko,ZH w.heap.size w⟩);clear HX HI HV
  go_region_held3 (fun w'=>w'.cell? ⟨P,63,none⟩=some (.int .i64 fk)/\w'.cell? ⟨P,64,none⟩=some (.int .i64 fa)/\w'.cell? ⟨P,29,none⟩=some (.int .i64 ct)/\w'.cell? ⟨P,30,none⟩=some (.int .i64 rg)/\w'.cell? ⟨P,31,none⟩=some (.int .i64 op)/\w'.cell? ⟨P,32,none⟩=some (.int .i64 vb)/\w'.cell? ⟨P,33,none⟩=some (.int .i64 ar)/\Below w.heap.size w w') (first|(with_reducible assumption)|(refine QzA qd HS0.out ?_;repeat(first|(with_reducible assumption)|(with_reducible exact ZH _ _)|(with_reducible refine Below.drew ?_)|(with_reducible refine Below.alloc ?_ QT _)|(with_reducible refine Below.setCell ?_ QT _)))) (first|(go_at_call 160;(with_reducible show Calls _ _ _ (w.drew) _);refine(HF.out (w.drew)).mono ?_;rintro e w8 ⟨rfl,XH⟩;obtain⟨hq8,Uq⟩:=QzF XH;clear XH)|(go_at_call 160;(with_reducible show Calls _ _ _ ((w.alloc (.cells #[.int .i64 0,.int .i64 0,.int .i64 0] 243)).drew) _);refine(HF.out ((w.alloc (.cells #[.int .i64 0,.int .i64 0,.int .i64 0] 243)).drew)).mono ?_;rintro e w8 ⟨rfl,XH⟩;obtain⟨hq8,Uq,hs8,hs9,QYm,QYl,vR,vO,vN,vM,dZ,dQ⟩:=QzE XH;clear XH)|(go_at_call 160;(with_reducible show Calls _ _ _ ((w.alloc (.cells #[.int .i64 0,.int .i64 0] 46)).drew) _);refine(HF.out ((w.alloc (.cells #[.int .i64 0,.int .i64 0] 46)).drew)).mono ?_;rintro e w8 ⟨rfl,XH⟩;obtain⟨hq8,Uq,hs8,hs9,QYm,QYl,vR,vO,vN,vM⟩:=QzD XH;clear XH)|(go_at_call 160;(with_reducible show Calls _ _ _ (((w.alloc (.cells #[.int .i64 0,.int .i64 0,.int .i64 0] 243)).alloc (.cells #[.int .i64 0,.int .i64 0] 46)).drew) _);refine(HF.out (((w.alloc (.cells #[.int .i64 0,.int .i64 0,.int .i64 0] 243)).alloc (.cells #[.int .i64 0,.int .i64 0] 46)).drew)).mono ?_;rintro e w8 ⟨rfl,XH⟩;obtain⟨hq8,Uq,hs8,hs9,QYm,QYl,vR,vO,vN,vM,dZ,dQ,cO,cB,cu,cz⟩:=QzC XH;clear XH)|(go_at_call 160;(with_reducible show Calls _ _ _ (((w.alloc (.cells #[.int .i64 0,.int .i64 0] 46)).alloc (.cells #[.int .i64 0,.int .i64 0,.int .i64 0] 243)).drew) _);refine(HF.out (((w.alloc (.cells #[.int .i64 0,.int .i64 0] 46)).alloc (.cells #[.int .i64 0,.int .i64 0,.int .i64 0] 243)).drew)).mono ?_;rintro e w8 ⟨rfl,XH⟩;obtain⟨hq8,Uq,hs8,hs9,QYm,QYl,vR,vO,vN,vM,cO,cB,cu,cz,QKw,QK9⟩:=QzB XH;clear XH))
  all_goals
   go_wp2;go_meet;rename_i hHeld;refine⟨_,_,QT,rfl,rfl,rfl,?_,?_,?_,?_,?_,hHeld.2.2.2.2.2.2.2⟩
   all_goals go_simp
 obtain⟨B,C,hC,rfl,rfl,rfl,b0,b1,b2,l0,l1,hb1⟩:=hcut;have h1:=HX.out.to hb1;clear bT c64 YI UE c31 c32 Ko;have HPC:=Zy (show C≠P from QQ);by_cases he:me=0
 ·subst he
  have hT:=h1.sl HI.out;have c0:=h1.c0;have c1:=h1.c1;have c31:=h1.c31;have yx:=h1.yx;have bT:=h1.bT;have c64:=h1.c64;dsimp only at c31;have H1:=Zy h1;have hk4:I.k<=200:=by have:=HI.out.k1;have:=HI.out.top;omega
  have HK:qg (I.k:Int):=⟨QQ,QQ⟩;have HH:=Zy HK;by_cases h0:op=0
  ·subst h0
   obtain⟨A,hA⟩:∃A,vE I.t I.k mk ct mg false=A:=⟨_,rfl⟩;obtain⟨bb,hbb⟩:∃bb,OO I.t I.k mk ct mg false=bb:=⟨_,rfl⟩;obtain⟨E,hE⟩:∃E,zi I.t I.k mk ct mg false=E:=⟨_,rfl⟩;have GO:∀w2,Below wc.heap.size wc w2->Calls Tryz.prog 161 #[.slice I.a I.n I.c,.int .i64 (I.k:Int),.agg #[.int .i64 mk,.int .i64 ct,.int .i64 mg],.bool false] w2 (kT A bb E w2):=fun w2 hb=>by
    rw[<-hA,<-hbb,<-hE];exact WM I.a I.n I.c I.t I.k mk ct mg false w2 (hT.below hb) HI.out.len (by have:=HI.out.top;omega) HH.out
   have HGO:=Zy GO;have HV2:=Zy (show _/\_/\_ from⟨hA,hbb,hE⟩);clear GO hA hbb hE h1 hT;have Tt:P<wc.heap.size:=H1.out.lt;have hBc:B<wc.heap.size:=Xb b0;go_upto_region 5 with fail
   go_cut [6,8] (fun u e wx=>u=.int .i64 A/\e=.int .i64 E/\Below wc.heap.size wc wx)
   case first=>
    go_region_held3 (fun w'=>w'.cell? ⟨P,0,none⟩=some (.slice I.a I.n I.c)/\w'.cell? ⟨P,1,none⟩=some (.int .i64 (I.k:Int))/\w'.cell? ⟨B,0,none⟩=some (.int .i64 mk)/\w'.cell? ⟨B,1,none⟩=some (.int .i64 ct)/\w'.cell? ⟨B,2,none⟩=some (.int .i64 mg)/\Below wc.heap.size wc w') (first|exact⟨c0,c1,b0,b1,b2,(ZH _ _).drew⟩|assumption|exact mvQ Tt hBc ‹_› ‹_›) (first|(go_at_call 161;refine(HGO.out _ (ZH _ _).drew).mono ?_;rintro e w8 ⟨rfl,XH⟩))
    all_goals
     go_wp2;go_meet;exact⟨rfl,rfl,((ZH _ _).drew).trans XH⟩
   obtain⟨rfl,rfl,hb2⟩:=hcut;have h2:=H1.out.to hb2;have d35:=h2.yx;have d63:=h2.bT;have d64:=h2.c64;have f35:=h2.free 35;have f63:=h2.free 63;have f64:=h2.free 64;have d0:=l0;rw[<-hb2.cell (Xb l0)]at d0;have d1:=l1;rw[<-hb2.cell (Xb l1)]at d1;have HB2:=Zy ((Yk.of (P:=P) hb1).trans (Yk.of hb2));have H2:=Zy h2;clear h2 hb2 c0 c1 c31 yx bT c64 b0 b1 b2 l0 l1 HF;by_cases hE0:E=0
   ·subst hE0
    have hmv:BJ I ⟨⟨ct,rg,0,vb,ar⟩,O,p,Y,fk,fa,md,es⟩=(0,⟨⟨ct,rg,0,vb,ar⟩,O,A,Y,lk,la,md,es⟩):=by
     obtain⟨v1,v2,v3,v4,v5⟩:=HV.out;obtain⟨x1,x2,x3⟩:=HV2.out;unfold BJ;dsimp only;rw[v1,v2,v3,v4,v5,if_neg QZ,if_pos rfl,x3,if_neg QZ,x1]
    have bV:=Zy hmv;clear hmv;go_upto_region 7 with fail
    go_region
    all_goals
     go_wp2;go_ret;rw[bV.out]
     first
      | exact⟨rfl,⟨_,((H2.out.drew.Ux A).eD lk).eB la⟩,HB2.out.drew.trans (((Yk.set _).trans (Yk.set _)).trans (Yk.set _))⟩
      | exact⟨rfl,⟨_,((H2.out.drew.eD lk).eB la).Ux A⟩,HB2.out.drew.trans (((Yk.set _).trans (Yk.set _)).trans (Yk.set _))⟩
   ·have n0:(E==0)=false:=by simpa using hE0
    have HE0:=Zy hE0;clear hE0;go_wp2;go_ret;have hmv:BJ I ⟨⟨ct,rg,0,vb,ar⟩,O,p,Y,fk,fa,md,es⟩=(E,⟨⟨ct,rg,0,vb,ar⟩,O,p,Y,fk,fa,md,es⟩):=by
     obtain⟨v1,v2,v3,v4,v5⟩:=HV.out;obtain⟨x1,x2,x3⟩:=HV2.out;unfold BJ;dsimp only;rw[v1,v2,v3,if_neg QZ,if_pos rfl,x3,if_pos HE0.out]
    rw[hmv];exact⟨rfl,⟨_,H2.out⟩,HB2.out⟩
  ·have nop:(op==0)=false:=by simpa using h0
   have MO:=Zy h0;clear h0;obtain⟨F,hF⟩:∃F,TJ I.t I.k mk ct mg=F:=⟨_,rfl⟩;obtain⟨T,hT2⟩:∃T,fA I.t I.k mk ct mg=T:=⟨_,rfl⟩;obtain⟨E,hE⟩:∃E,zi I.t I.k mk ct mg true=E:=⟨_,rfl⟩;have RA:∀w2,Below wc.heap.size wc w2->Calls Tryz.prog 162 #[.slice I.a I.n I.c,.int .i64 (I.k:Int),.agg #[.int .i64 mk,.int .i64 ct,.int .i64 mg]] w2 (PV F T E w2):=fun w2 hb=>by
    rw[<-hF,<-hT2,<-hE];exact jm I.a I.n I.c I.t I.k mk ct mg w2 (hT.below hb) HI.out.len (by have:=HI.out.top;omega) HH.out
   have HBD:=Zy (show E=0->0<=F/\F<=T/\T<=(I.n:Int)from fun e=>by rw[<-hF,<-hT2,<-HI.out.len];exact QUk (hE.trans e));have HRA:=Zy RA;have HV2:=Zy (show _/\_/\_ from⟨hF,hT2,hE⟩);clear RA hF hT2 hE h1 hT;have Tt:P<wc.heap.size:=H1.out.lt;have hBc:B<wc.heap.size:=Xb b0;go_upto_region 9 with fail
   go_cut [9,10,5] (fun u v e wx=>u=.int .i64 F/\v=.int .i64 T/\e=.int .i64 E/\Below wc.heap.size wc wx)
   case first=>
    go_region_held3 (fun w'=>w'.cell? ⟨P,0,none⟩=some (.slice I.a I.n I.c)/\w'.cell? ⟨P,1,none⟩=some (.int .i64 (I.k:Int))/\w'.cell? ⟨B,0,none⟩=some (.int .i64 mk)/\w'.cell? ⟨B,1,none⟩=some (.int .i64 ct)/\w'.cell? ⟨B,2,none⟩=some (.int .i64 mg)/\Below wc.heap.size wc w') (first|exact⟨c0,c1,b0,b1,b2,(ZH _ _).drew⟩|assumption|exact mvQ Tt hBc ‹_› ‹_›) (first|(go_at_call 162;refine(HRA.out _ (ZH _ _).drew).mono ?_;rintro e w8 ⟨rfl,XH⟩))
    all_goals
     go_wp2;go_meet;exact⟨rfl,rfl,rfl,((ZH _ _).drew).trans XH⟩
   obtain⟨rfl,rfl,rfl,hb2⟩:=hcut;have h2:=H1.out.to hb2;have d0:=l0;rw[<-hb2.cell (Xb l0)]at d0;have d1:=l1;rw[<-hb2.cell (Xb l1)]at d1;have HB2:=Zy ((Yk.of (P:=P) hb1).trans (Yk.of hb2));have H2:=Zy h2;clear h2 hb2 c0 c1 c31 yx bT c64 b0 b1 b2 l0 l1 HF;by_cases hE0:E=0
   ·subst hE0
    obtain⟨x1,x2,x3⟩:=HBD.out rfl;obtain⟨f,rfl⟩:=Zw x1;obtain⟨g,rfl⟩:=Zw (show 0<=T from QQ);have CT:=VV P f g false us I HI.out _ wc H2.out QQ QQ;obtain⟨r1,r2,hr⟩:∃r1 r2,EY I ⟨⟨ct,rg,op,vb,ar⟩,O,p,Y,fk,fa,md,es⟩ f g false=(r1,r2):=⟨_,_,rfl⟩;rw[hr]at CT;have jG:=Zy CT;have HR:=Zy hr;have D0:=Zy d0;have D1:=Zy d1;clear CT hr x1 x2 x3 d0 d1;by_cases hr0:r1=0
    ·subst hr0
     have hmv:BJ I ⟨⟨ct,rg,op,vb,ar⟩,O,p,Y,fk,fa,md,es⟩=(0,{r2 with fk:=lk,fa:=la}):=by
      obtain⟨v1,v2,v3,v4,v5⟩:=HV.out;obtain⟨x1,x2,x3⟩:=HV2.out;unfold BJ;dsimp only;rw[v1,v2,v3,v4,v5,if_neg QZ,if_neg MO.out,x3,if_neg QZ,x1,x2,XK,XK,HR.out];rfl
     have bV:=Zy hmv;clear hmv;go_wp2_with (go_at_call 155;go_loud (refine(jG.out).mono ?_;rintro e w9 ⟨rfl,⟨us9,h9⟩,qV⟩;have g0:=qV.cell HPC.out D0.out;have g1:=qV.cell HPC.out D1.out;have bT:=h9.bT;have c64:=h9.c64;have f63:=h9.free 63;have f64:=h9.free 64;have H9:=Zy h9;clear h9))
     go_ret;rw[bV.out];exact⟨rfl,⟨_,(H9.out.eD lk).eB la⟩,(HB2.out.trans qV).trans ((Yk.set _).trans (Yk.set _))⟩
    ·have n0:(r1 !=0)=true:=by simpa using hr0
     have Jf:=Zy hr0;clear hr0;go_wp2_with (go_at_call 155;go_loud (refine(jG.out).mono ?_;rintro e w9 ⟨rfl,iH,qV⟩))
     go_ret;have hmv:BJ I ⟨⟨ct,rg,op,vb,ar⟩,O,p,Y,fk,fa,md,es⟩=(r1,r2):=by
      obtain⟨v1,v2,v3,v4,v5⟩:=HV.out;obtain⟨x1,x2,x3⟩:=HV2.out;unfold BJ;dsimp only;rw[v1,v2,v3,if_neg QZ,if_neg MO.out,x3,if_neg QZ,x1,x2,XK,XK,HR.out];dsimp only;rw[if_pos Jf.out]
     rw[hmv];exact⟨rfl,iH,HB2.out.trans qV⟩
   ·have n0:(E !=0)=true:=by simpa using hE0
    have HE0:=Zy hE0;clear hE0;go_wp2;go_ret;have hmv:BJ I ⟨⟨ct,rg,op,vb,ar⟩,O,p,Y,fk,fa,md,es⟩=(E,⟨⟨ct,rg,op,vb,ar⟩,O,p,Y,fk,fa,md,es⟩):=by
     obtain⟨v1,v2,v3,v4,v5⟩:=HV.out;obtain⟨x1,x2,x3⟩:=HV2.out;unfold BJ;dsimp only;rw[v1,v2,v3,if_neg QZ,if_neg MO.out,x3,if_pos HE0.out]
    rw[hmv];exact⟨rfl,⟨_,H2.out⟩,HB2.out⟩
 ·have n0:(me !=0)=true:=by simpa using he
  have H1:=Zy h1;have HE:=Zy he;clear he h1;go_wp2;go_ret;obtain⟨v1,v2,v3,v4,v5⟩:=HV.out;have hmv:BJ I ⟨⟨ct,rg,op,vb,ar⟩,O,p,Y,fk,fa,md,es⟩=(me,⟨⟨ct,rg,op,vb,ar⟩,O,p,Y,fk,fa,md,es⟩):=by
   unfold BJ;dsimp only;rw[v3,if_pos HE.out]
  rw[hmv];exact⟨rfl,⟨_,H1.out⟩,Yk.of hb1⟩
def UH(xs out:List Int)(m:Nat):Prop:=∀i,i<m->ix out i=ix xs (i % xs.length)
theorem AB(out ys:List Int)(m:Nat):splice (out.map (Value.int .i64)) m (ys.map (Value.int .i64))=(splice out m ys).map (Value.int .i64):=by simp[splice]
theorem NC(out ys:List Int)(m i:Nat)(hm:m<=out.length)(hi:i<m):ix (splice out m ys) i=ix out i:=by
 unfold splice;rw[YE QY,Ya QY,Ya (show i<out.length from QQ)];simp
theorem AA(out ys:List Int)(m i:Nat)(hm:m<=out.length)(hi:i<ys.length):ix (splice out m ys) (m+i)=ix ys i:=by
 unfold splice;have:(out.take m).length=m:=QY;rw[show m+i=(out.take m).length+i from by rw[this],KP,YE hi]
theorem UH.first{xs out:List Int}(h:xs.length<=out.length):UH xs (splice out 0 xs) xs.length:=fun i hi=>by
 have:=AA out xs 0 i (Z4 _) hi;rw[XI]at this;rw[this,Nat.mod_eq_of_lt hi]
theorem UH.more{xs out:List Int}{m d q:Nat}(h:UH xs out m)(hm:m<=out.length)(hd:d<=m)(hq:m=xs.length*q):UH xs (splice out m (out.take d)) (m+d):=fun i hi=>by
 by_cases h1:i<m
 ·rw[NC _ _ _ _ hm h1];exact h i h1
 ·obtain⟨j,rfl⟩:∃j,i=m+j:=⟨i-m,QQ⟩
  have hj:j<(out.take d).length:=QY;rw[AA _ _ _ _ hm hj,Ya hj,List.getElem_take,<-Ya,h j QQ,hq,Nat.mul_add_mod]
theorem UH.all{xs out:List Int}{k:Nat}(h:UH xs out (xs.length*k))(hl:out.length=xs.length*k):out=qL xs k:=by
 refine kU (by rw[hl,zQ]) fun i hi=>?_
 rw[h i QQ,rM _ _ _ QQ]
theorem Pp:(Tryz.prog.info? 3).map (·.size)=some 1:=by
 obtain⟨i0,hi,hz0,hz1,hz2⟩:=XR JH;rw[hi];simp[hz1]
theorem Lu{ys:List Int}:∀v∈ys.map (Value.int .i64),v.oneCell'=true:=by
 intro u hu;obtain⟨y,_,rfl⟩:=List.mem_map.1 hu;rfl
theorem Ints.src{w:World}{a:Option Addr}{ys:List Int}(h:Ints w a ys)(hp:0<ys.length):∃ad,a=some ad/\∀j v,(ys.map (Value.int .i64))[j]? =some v->w.cell? (ad.add j)=some v:=by
 rcases h with h|⟨b,o',ha,hc⟩
 ·subst h;simp at hp
 ·refine⟨_,ha,fun j v hj=>?_⟩
  have hlt:j<ys.length:=by
   exact QIa
  exact QHC
theorem A7{w:World}{g base:Nat}{xs:List Int}{e:TypeId}(h:Za w g (xs.map (Value.int .i64)).toArray e)(hb:base<=g)(hl:xs.length<=17592186044416):Own e base w (.slice (some ⟨g,0,none⟩) xs.length xs.length) xs:=
 ⟨QJ,.inr ⟨g,xs.length,_,rfl,hb,h,ZB _,Qg,QJ,by rw[Nat.mul_one,Z6 QJ]⟩⟩
def QZY(xs:List Int)(k:Nat)(w:World)(e:Ending)(w':World):Prop:=∃v,e=.returned v/\Own 3 w.heap.size w' v (qL xs k)/\Below w.heap.size w w'
theorem WQ(a:Option Addr)(n c k:Nat)(xs:List Int)(w:World)(ha:Ints w a xs)(hn:xs.length=n)(hk:k<=4096)(hl:n<=4096):
  Calls Tryz.prog 75 #[.slice a n c,.int .i64 (k:Int)] w (QZY xs k w):=by
 have HN:=Zy hn;clear hn;have hT:n*k<=16777216:=Nat.mul_le_mul hl hk;have hlo:n*k % 18446744073709551616=n*k:=Nat.mod_eq_of_lt QQ;have hhi:n*k / 18446744073709551616=0:=Nat.div_eq_of_lt QQ;obtain⟨T,hTe⟩:∃T,T=n*k:=⟨_,rfl⟩;have hmk:=yl T T (ZB _) QQ;have hT2:T<=16777216:=QQ;have hnT:T=0\/1<=n/\1<=k/\n<=T:=by
  rcases Xf k with rfl|hk1
  ·left;simpa using hTe
  ·rcases Xf n with rfl|hn1
   ·left;simpa using hTe
   ·right;exact⟨hn1,hk1,by rw[hTe];exact Nat.le_mul_of_pos_right _ hk1⟩
 have hB:=Za.new w ((List.replicate T (0:Int)).map (Value.int .i64)).toArray 3;rw[<-vW]at hB;have hb1:=ZR w (.cells (madeCells #[.int .i64 0] T) 3);have hd:(xs.take (min n T)).length=Nat.min n T:=by rw[Zi,HN.out];show min (min n T) n=min n T;omega
 obtain⟨ys,hys⟩:∃ys,ys=xs.take (min n T):=⟨_,rfl⟩;have hsrc:=(show Ints w a ys by rw[hys];exact ha.take _).below hb1;have HD:=Zy (show ys.length=Nat.min n T by rw[hys];exact hd);have HYS:=Zy hys;have hdT:Nat.min n T<=T:=Nat.min_le_right _ _;have HNT:=Zy hnT;clear hd hys;go_enter Tryz.func75,Tryz.ntmps75
 go_wp2_with fail
 refine(mf n k QQ QQ w).mono ?_;rintro e w' ⟨rfl,rfl⟩;rw[hhi,hlo,<-hTe];have HTE:=Zy hTe;clear hlo hhi hTe hnT hT;go_wp2_with (show wpList _ _ _ (⟨some 33,_,_,_,_,_⟩::_) _ _;revert HYS)
 intro HYS
 (refine wpList_copy_splice (o:=⟨some 33,_,_,_,_,_⟩) rfl _ _ _ _ rfl 3 Tryz.underlying22 Pp _ _ _ _ _ _ rfl rfl w'.heap.size 0 ((List.replicate T (0:Int)).map (Value.int .i64)) 3 (by have h:=hB;unfold Za at h;rw[h,vW]) (ys.map (Value.int .i64)) (by rw[YU];exact HD.out) (fun hp=>⟨rfl,hsrc.src QE9⟩) (by simp;rw[HD.out];exact hdT) Lu w'.heap.size w' hb1 (ZB _) ?_;intro w2 hw2 hb2)
 clear hb1 hB hmk hsrc;rw[YU,HD.out];obtain⟨d,hdd⟩:∃d,Nat.min n T=d:=⟨_,rfl⟩;rw[hdd]at hdT ⊢;have hrow:Hid (∃out:List Int,w2.heap[w'.heap.size]? =some (.cells (out.map (Value.int .i64)).toArray 3 (0,0))/\out.length=T/\UH xs out d/\(d<T->0<d/\∃q,d=n*q)):=Zy (by
  have h:=hw2.out;rw[AB]at h;refine⟨_,h,by rw[length_splice _ _ _ (by rw[HD.out,hdd];simpa using hdT)];simp,?_,?_⟩
  ·rcases HNT.out with h0|⟨h1,h2,h3⟩
   ·have:d=0:=by omega
    subst this;intro i hi;omega
   ·have hd:d=n:=by rw[<-hdd];exact YJ h3
    have:ys=xs:=by rw[HYS.out,YJ h3,<-HN.out,List.take_length]
    subst this;rw[hd,<-HN.out];exact UH.first (by simp;rw[HN.out];exact h3)
  ·intro hlt
   rcases HNT.out with h0|⟨h1,h2,h3⟩
   ·omega
   ·have hd:d=n:=by rw[<-hdd];exact YJ h3
    exact⟨QQ,1,QQ⟩)
 clear hw2 hdd HD HYS;go_wp2
 go_loopw [8] (fun i wr=>∃(m:Nat) (out:List Int),i=.int .i64 (m:Int)/\m<=T/\Za wr w'.heap.size (out.map (Value.int .i64)).toArray 3/\out.length=T/\UH xs out m/\(m<T->0<m/\∃q,m=n*q)/\Below w'.heap.size w' wr) (fun i _=>T-(intOf i).toNat)
 case atStart=>
  obtain⟨out,h1,h2,h3,h4⟩:=hrow.out;exact⟨d,out,rfl,hdT,h1,h2,h3,h4,hb2⟩
 case round=>
  obtain⟨m,out,rfl,hm,hB,hol,hfil,hq,hbel⟩:=hrel;have Pk:=Zy hol;have HF:=Zy hfil;have HQ:=Zy hq;clear hrow hb2 hol hfil hq;by_cases hlt:m<T
  ·have hm0:=(HQ.out hlt).1
   have i1:(m:Int)<(T:Int):=QQ;have i3:¬T=m:=QQ;have hel:(out.take (Nat.min m (T-m))).length=Nat.min m (T-m):=by rw[Zi,Pk.out];show min (min m (T-m)) T=min m (T-m);omega
   obtain⟨zs,hzs⟩:∃zs,zs=out.take (Nat.min m (T-m)):=⟨_,rfl⟩;rw[<-hzs]at hel;have HEL:=Zy hel;have HZ:=Zy hzs;have hIz:Ints wr (some ⟨w'.heap.size,0,none⟩) zs:=by rw[hzs];exact(Bu hB).take _
   have hle:zs.length<=T-m:=by rw[hel];exact Nat.min_le_right _ _
   clear hel hzs;go_wp2
   go_region_law (refine step_copy_splice rfl (.tmp 41) (.tmp 44) _ _ rfl 3 Tryz.underlying22 Pp (some ⟨w'.heap.size,m,none⟩) (some ⟨w'.heap.size,0,none⟩) (T-m) (T-m) m T (by simp[Act.eval,Act.put,i3]) (by simp[Act.eval,Act.put,i3]) w'.heap.size m (out.map (Value.int .i64)) 3 hB (zs.map (Value.int .i64)) (by rw[YU];exact HEL.out) (fun hp=>⟨rfl,hIz.drew.src QE9⟩) (by rw[YU,YU,Pk.out];omega) Lu w'.heap.size w' hbel.drew (ZB _) ?_;intro w4 hg4 hb4)
   all_goals
    have hg:=hg4.out;rw[AB]at hg;have hz:zs=out.take zs.length:=by rw[HEL.out];exact HZ.out
    have hzm:zs.length<=m:=by rw[HEL.out];exact Nat.min_le_left _ _
    have hzT:zs.length=m\/zs.length=T-m:=by rw[HEL.out];show min m (T-m)=m\/min m (T-m)=T-m;omega
    have hlen:(splice out m zs).length=T:=by rw[length_splice _ _ _ (by rw[Pk.out];omega)];exact Pk.out
    obtain⟨q,hq⟩:=(HQ.out hlt).2;have hfl:UH xs (splice out m zs) (m+zs.length):=by
     rw[hz];have:=UH.more (xs:=xs) (q:=q) HF.out (by rw[Pk.out];exact hm) hzm (by rw[HN.out];exact hq);have e:(out.take zs.length).length=zs.length:=by rw[<-hz]
     rw[e];exact this
    have H1:=Zy hg;have H2:=Zy hlen;have H3:=Zy hfl;have H4:Hid (m+zs.length<T->0<m+zs.length/\∃q,m+zs.length=n*q):=Zy (fun hl=>⟨QQ,2*q,by rcases hzT with h|h;(·rw[h,hq,<-Nat.two_mul,Nat.mul_left_comm]);(·omega)⟩);have hzp:0<zs.length:=QQ;clear hg hg4 hz hlen hq hfl hzT;have iw:IntKind.i64.wrap ((m:Int)+(zs.length:Int))=((m+zs.length:Nat):Int):=QDJ;go_simp;go_roundw
    case rel=>
     exact⟨_,_,_,_,_,_,_,_,_,_,_,_,_,_,⟨m+zs.length,splice out m zs,Qy,QQ,H1.out,H2.out,H3.out,H4.out,hb4⟩,rfl⟩
    case measure=>simp[intOf];omega
  ·have hmT:m=T:=by omega
   subst hmT;go_wp2;go_ret;refine⟨_,rfl,?_,hbel⟩;have he:out=qL xs k:=UH.all (by rw[HN.out,<-HTE.out];exact HF.out) (by rw[HN.out,<-HTE.out];exact Pk.out);rw[<-he];have:=A7 hB (ZB _) (by rw[Pk.out];omega)
   rwa[Pk.out]at this
theorem QUa{P:Nat}{rg:Int}{vs:List Value}{w w1 w2:World}(hP:P<w.heap.size)(h:(w1.cell? ⟨P,30,none⟩=some (.int .i64 rg)/\w1.rangeAt P 2 vs/\Below w.heap.size w w1))(hb:Below w.heap.size w1 w2):w2.cell? ⟨P,30,none⟩=some (.int .i64 rg)/\w2.rangeAt P 2 vs/\Below w.heap.size w w2:=
 ⟨QE5,fun j v hv=>by rw[hb.cell hP];exact h.2.1 j v hv,h.2.2.trans hb⟩
theorem QYM{P:Nat}{rg:Int}{vs:List Value}{w w1 w2:World}(hP:P<w.heap.size)(h:(w1.cell? ⟨P,30,none⟩=some (.int .i64 rg)/\w1.rangeAt P 2 vs/\Below w.heap.size w w1))(hb:Below w1.heap.size w1 w2):w2.cell? ⟨P,30,none⟩=some (.int .i64 rg)/\w2.rangeAt P 2 vs/\Below w.heap.size w w2:=
 QUa hP h (hb.mono h.2.2.size)
theorem aU{X:List (List Int)}{rg:Int}(h:xk X rg=0):UK X rg≠[]:=by
 unfold xk UK at *;split at h
 ·omega
 ·rename_i h1
  rw[if_neg h1];unfold TY at h;split at h
  ·omega
  ·assumption
theorem fB{n m N:Nat}(hn:n<=200)(hm:0<m):(200-(n:Int)) / (m:Int)<(N:Int)↔(200:Int)<(n:Int)+(N:Int)*(m:Int):=by
 rw[Int.ediv_lt_iff_lt_mul QQ];omega
theorem Br(P i:Nat)(us:List Value)(I:In)(hI:Je I)(s:St)(w:World)(h:DI P w us I s)(hi:i<=I.n)(hc0:0<=s.cm.a)(hc1:s.cm.a<=999):
  Calls Tryz.prog 163 #[.pointer (some ⟨P,0,none⟩),.int .i64 (i:Int)] w (Y5 P I (Hr I s i).1 (Hr I s i).2 w):=by
 have hR:=h.rg hI;have HS:=Zy hI.small;have HI:=Zy hI;have htop:=hI.top;have UE:=h.UE;have rr:=h.rr hI;have hlv:=hI.bH.lv;have qd:=h.lt;have HX:=Zy h;have HII:=Zy hi;obtain⟨y,hy⟩:∃y,UK I.X s.cm.b=y:=⟨_,rfl⟩;obtain⟨E,hE⟩:∃E,xk I.X s.cm.b=E:=⟨_,rfl⟩;obtain⟨rg,hrg⟩:∃rg,s.cm.b=rg:=⟨_,rfl⟩;obtain⟨N,hN,hN1,Tw⟩:∃N:Nat,max 1 s.cm.a=(N:Int)/\1<=N/\N<=999:=⟨(max 1 s.cm.a).toNat,QQ,QQ,QQ⟩;obtain⟨m,hm⟩:∃m,y.length=m:=⟨_,rfl⟩;have hps:Hr I s i=if E≠0 then(E,s)else if 200<(I.n:Int)+(N:Int)*(m:Int)then(2,s)else(0,{Uz I s i i (qL y N)with p:=(i:Int)+(N:Int)*(m:Int)-1}):=by
  rw[Hr,hy,hE,hN,hm];rfl
 rw[hps];have hpos:E=0->0<m:=fun h0=>by
  have:=aU (hE.trans h0);rw[hy]at this;rw[<-hm];exact Xi.2 this
 have GET:∀w1,Below w.heap.size w w1->Calls Tryz.prog 177 #[.agg I.vs.toArray,.int .i64 rg] w1 (jC y E w1):=fun w1 hb=>by
  have:=rO I.vs I.X rg w1 (hR.below hb) HS.out;rw[<-hrg,hy,hE]at this;rw[<-hrg];exact this
 rw[hrg]at UE;have HG:=Zy GET;have hu:=J6;have hz:(Tryz.prog.info? 48).map (·.size)=some I.vs.length:=by rw[hlv];exact JF
 obtain⟨vs,hvs⟩:∃vs,I.vs=vs:=⟨_,rfl⟩;rw[hvs]at HG hz rr;have HP:=Zy hpos;have HM:=Zy hm;clear GET hR hy hE hrg hvs hps hpos hI h hi hm;go_enter Tryz.func163,Tryz.ntmps163
 go_upto_region 1 with fail
 go_cut [5,6] (fun v e wx=>∃a5 n5 c5,v=.slice a5 n5 c5/\e=.int .i64 E/\Sl wx (.slice a5 n5 c5) y/\Below w.heap.size w wx)
 case first=>
  go_region_held3 (fun w'=>w'.cell? ⟨P,30,none⟩=some (.int .i64 rg)/\w'.rangeAt P 2 vs/\Below w.heap.size w w') (first|exact⟨UE,rr,(ZH _ _).drew⟩|assumption|exact QYM qd ‹_› ‹_›)
   (first|(go_at_call 177;refine(HG.out _ (ZH _ _).drew).mono ?_;rintro e w8 ⟨v8,rfl,sl8,XH⟩;have sl9:=sl8;obtain⟨a8,n8,c8,rfl,-,-,-,-,-⟩:=sl9))
  all_goals
   go_wp2;go_meet;exact⟨_,_,_,rfl,rfl,sl8,((ZH _ _).drew).trans XH⟩
 obtain⟨a5,n5,c5,rfl,rfl,sl5,hb5⟩:=hcut;have h5:=HX.out.to hb5;clear UE rr hz hu hlv;have c0:=h5.c0;have YI:=h5.YI;obtain⟨g1,g2,g3,g4,g5⟩:=sl5.get;have hn5:n5=m:=by rw[<-g1,HM.out]
 subst hn5;have G4:=Zy g4;have G5:=Zy g5;have H5:=Zy h5;clear g4 g5 sl5 h5 g1;by_cases h0:E=0
 ·have hm0:=HP.out h0
  subst h0;obtain⟨ct,hct⟩:∃ct,s.cm.a=ct:=⟨_,rfl⟩;rw[hct]at YI hN hc0 hc1;have jG:=Zy hct;have UO:=Zy hN;clear hct hN;have HC0:=Zy c0;clear c0;go_upto_region 4 with fail
  go_cut [7] (fun v wx=>v=.int .i64 (N:Int)/\wx=wc)
  case first=>
   have h3:ct=0\/ct=1\/2<=ct:=QQ;rcases h3 with rfl|rfl|h3
   ·obtain rfl:N=1:=by have:=UO.out;omega
    exact QGe
   ·obtain rfl:N=1:=by have:=UO.out;omega
    exact QGe
   ·obtain rfl:ct=(N:Int):=by have:=UO.out;omega
    exact QGe
  obtain⟨rfl,rfl⟩:=hcut;have c0:=HC0.out;clear YI hc0 hc1;by_cases hbig:(200:Int)<(I.n:Int)+(N:Int)*(n5:Int)
  ·have hq:=(fB htop hm0 (N:=N)).2 hbig
   have HB:=Zy hbig;clear hbig;go_wp2;go_ret;exact⟨rfl,⟨_,by first|exact H5.out|(rw[if_pos HB.out];exact H5.out)⟩,Yk.of hb5⟩
  ·have hq:(N:Int)<=(200-(I.n:Int)) / (n5:Int):=Int.not_lt.1 fun hx=>hbig ((fB htop hm0 (N:=N)).1 hx)
   obtain⟨M,hM⟩:∃M,N*n5=M:=⟨_,rfl⟩;have hmul:(N:Int)*(n5:Int)=(M:Int):=by rw[<-hM];push_cast;rfl
   have hM2:M<=200:=by rw[hmul]at hbig;omega
   have hM3:n5<=M:=by rw[<-hM];exact Nat.le_mul_of_pos_left _ QQ
   have iw1:IntKind.i64.wrap ((N:Int)*(n5:Int))=(M:Int):=by rw[hmul,Xa];omega
   have hi2:i<=200:=by have:=HII.out;omega
   have HB:=Zy hbig;have HMU:=Zy hmul;have HRL:=Zy (show(qL y N).length=M by rw[zQ,HM.out,Nat.mul_comm];exact hM);clear hbig hmul hM;go_wp2_with (first|(go_at_call 75;refine(WQ _ _ _ _ y _ G4.out HM.out QQ QQ).mono ?_;rintro e w6 ⟨v6,rfl,o6,hb6⟩;obtain⟨a6,n6,c6,rfl⟩:=o6.form;have O6:=Zy o6;clear o6)|(go_at_call 169;go_loud (refine(WR P i i us I HI.out s _ _ _ (qL y N) _ (H5.out.to hb6) O6.out.get.2.1 O6.out.get.1 (by have:=O6.out.get.1;rw[HRL.out]at this;omega) O6.out.sl.get.2.2.2.2 (ZB _) HII.out).mono ?_;rintro e w7 ⟨rfl,⟨us7,h7⟩,kC⟩;have yx:=h7.yx;have f35:=h7.free 35;have H7:=Zy h7;clear h7)))
   all_goals
    go_ret
    first
     | exact absurd (show(200:Int)<(I.n:Int)+(N:Int)*(n5:Int) from QI) (by have:=HB.out;omega)
     | exact⟨rfl,⟨_,by rw[HMU.out];exact H7.out.Ux _⟩,(((Yk.of hb5).trans (Yk.of hb6)).trans kC).trans (Yk.set _)⟩
 ·have n0:(E !=0)=true:=by simpa using h0
  have HE:=Zy h0;clear h0;go_wp2;go_ret;exact⟨rfl,⟨_,by first|exact H5.out|(rw[if_pos HE.out];exact H5.out)⟩,Yk.of hb5⟩
end Go.Proofs.YtmdnepkekekncaaGreat
