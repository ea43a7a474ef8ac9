/- joined, no condition of its own. -/
import Derived.Test.YtmdnepkekekncaaGreatJfJ12
set_option linter.unusedVariables false
set_option linter.unusedSimpArgs false
set_option maxRecDepth 100000
set_option maxHeartbeats 12000000
namespace Go.Proofs.YtmdnepkekekncaaGreat
open Go.RowKit
noncomputable def Uz(I:In)(s:St)(f g:Nat)(x:List Int):St:={s with O:=I.t.take f++x++I.t.drop g,es:=btF I.t (I.t.take f++x++I.t.drop g)}
noncomputable def EY(I:In)(s:St)(f g:Nat)(whole:Bool):Int×St:=
 if f=g/\s.cm.c≠99 then(5,s)
 else if f<g/\KE I.X s.cm.b ((I.t.take g).drop f)≠0 then(KE I.X s.cm.b ((I.t.take g).drop f),s)
 else
  let s1:=if f<g then {s with Y:=Jh I.X s.cm.b ((I.t.take g).drop f)}else s
  if s.cm.c=121 then(0,if whole then s1 else {s1 with p:=min (f:Int) I.k})
  else if s.cm.c=99 then(0,{Uz I s1 f g []with md:=1,p:=(f:Int)})
  else(0,{Uz I s1 f g []with md:=0,p:=Hw f ((I.t.take f++[]++I.t.drop g).length:Int)})
noncomputable def BJ(I:In)(s:St):Int×St:=
 if LC s.fk s.cm.d≠0 then(LC s.fk s.cm.d,s)
 else if s.cm.c=0 then
  (
   if zi I.t I.k (jh s.fk s.cm.d) s.cm.a (ji s.fk s.fa s.cm.d s.cm.e) false≠0 then(zi I.t I.k (jh s.fk s.cm.d) s.cm.a (ji s.fk s.fa s.cm.d s.cm.e) false,s)
   else(0,{s with p:=vE I.t I.k (jh s.fk s.cm.d) s.cm.a (ji s.fk s.fa s.cm.d s.cm.e) false,fk:=Mf s.fk s.cm.d,fa:=Mg s.fa s.cm.d s.cm.e}))
 else if zi I.t I.k (jh s.fk s.cm.d) s.cm.a (ji s.fk s.fa s.cm.d s.cm.e) true≠0 then(zi I.t I.k (jh s.fk s.cm.d) s.cm.a (ji s.fk s.fa s.cm.d s.cm.e) true,s)
 else
  let r:=EY I s (TJ I.t I.k (jh s.fk s.cm.d) s.cm.a (ji s.fk s.fa s.cm.d s.cm.e)).toNat (fA I.t I.k (jh s.fk s.cm.d) s.cm.a (ji s.fk s.fa s.cm.d s.cm.e)).toNat false
  if r.1≠0 then(r.1,r.2)else(0,{r.2 with fk:=Mf s.fk s.cm.d,fa:=Mg s.fa s.cm.d s.cm.e})
noncomputable def Hr(I:In)(s:St)(i:Nat):Int×St:=
 if xk I.X s.cm.b≠0 then(xk I.X s.cm.b,s)
 else if 200<(I.n:Int)+max 1 s.cm.a*((UK I.X s.cm.b).length:Int)then(2,s)
 else(0,{Uz I s i i (qL (UK I.X s.cm.b) (max 1 s.cm.a).toNat)with p:=(i:Int)+max 1 s.cm.a*((UK I.X s.cm.b).length:Int)-1})
def chL(I:In)(m:Nat)(f:Int->Int):List Int:=((I.t.take (I.k+m)).drop I.k).map f
noncomputable def mF(I:In)(s:St)(m:Nat)(f:Int->Int):St:=Uz I s I.k (I.k+m) (chL I m f)
noncomputable def FI(I:In)(s:St):Int×St:=
 if s.cm.d=112 then Hr I s (min (I.k+1) I.n)
 else if s.cm.d=80 then Hr I s I.k
 else if s.cm.d=126 then
  (if I.n=0 then(5,s)else(0,{mF I s (min (max 1 s.cm.a).toNat (I.n-I.k)) ql with p:=min ((I.k:Int)+max 1 s.cm.a) (I.n-1)}))
 else if s.cm.d=114 then
  (if(I.n:Int)<I.k+max 1 s.cm.a then(5,s)else(0,{mF I s (max 1 s.cm.a).toNat (fun _=>s.cm.e)with p:=(I.k:Int)+max 1 s.cm.a-1}))
 else if s.cm.d=105 then(0,{s with md:=1})
 else if s.cm.d=73 then(0,{s with md:=1,p:=Ku I.t})
 else if s.cm.d=97 then(0,{s with md:=1,p:=min ((I.k:Int)+1) I.n})
 else if s.cm.d=65 then(0,{s with md:=1,p:=(I.n:Int)})
 else if s.cm.d=82 then(0,{s with md:=2})
 else(9,s)
noncomputable def TC(l:List Int)(n:Nat)(around:Bool)(k:Nat)(key:Int):Int×Int×Int:=Classical.epsilon fun r=>DN l (Jr l n n).out around k key r.1 r.2.1 r.2.2
theorem BZ{l:List Int}{n:Nat}{around:Bool}{k:Nat}{key a b er:Int}(h:DN l (Jr l n n).out around k key a b er):TC l n around k key=(a,b,er):=by
 have h':=Classical.epsilon_spec (p:=fun r:Int×Int×Int=>DN l (Jr l n n).out around k key r.1 r.2.1 r.2.2) ⟨(a,b,er),h⟩;obtain⟨h1,h2,h3⟩:=h'.one h;exact Prod.ext h1 (Prod.ext h2 h3)
def YB(d:Int):Bool:=[104,108,48,94,36,124,119,87,98,66,101,69,37,102,70,116,84,59,44].contains d
noncomputable def Mh(I:In)(s:St):Int×St:=
 if YB s.cm.d=true then BJ I s
 else if s.cm.c=0 then FI I s
 else if s.cm.d=s.cm.c then EY I s 0 I.n true
 else if s.cm.d≠105/\s.cm.d≠97 then(9,s)
 else if(TC I.t I.n (decide (s.cm.d=97)) I.k s.cm.e).2.2≠0 then((TC I.t I.n (decide (s.cm.d=97)) I.k s.cm.e).2.2,s)
 else EY I s (TC I.t I.n (decide (s.cm.d=97)) I.k s.cm.e).1.toNat (TC I.t I.n (decide (s.cm.d=97)) I.k s.cm.e).2.1.toNat false
theorem sO(P f:Nat)(whole:Bool)(us:List Value)(I:In)(s:St)(w:World)(h:DI P w us I s)(OI:s.cm.c≠99):
  Calls Tryz.prog 155 #[.pointer (some ⟨P,0,none⟩),.int .i64 (f:Int),.int .i64 (f:Int),.bool whole] w (Y5 P I 5 s w):=by
 have n99:(s.cm.c !=99)=true:=by simpa using OI
 have c31:=h.c31;have HX:=Zy h;obtain⟨op,hop⟩:∃op,s.cm.c=op:=⟨_,rfl⟩;rw[hop]at c31 n99;clear h OI hop;go_enter Tryz.func155,Tryz.ntmps155
 go_wp2;go_ret;exact⟨rfl,⟨_,HX.out⟩,Yk.refl _ _⟩
theorem QYV(P f g:Nat)(whole:Bool)(us:List Value)(I:In)(hI:Je I)(s:St)(w:World)(h:DI P w us I s)(hfg:f<g)(hgn:g<=I.n)(E:Int)(hE:KE I.X s.cm.b ((I.t.take g).drop f)=E)(h0:E≠0):
  Calls Tryz.prog 155 #[.pointer (some ⟨P,0,none⟩),.int .i64 (f:Int),.int .i64 (g:Int),.bool whole] w (Y5 P I E s w):=by
 have CT:=WS P f g us I hI s w h QQ hgn;rw[hE,if_neg h0]at CT;have n0:(E !=0)=true:=Q7;have jG:=Zy CT;have hne:((f:Int)==(g:Int))=false:=QY;have hlt:decide ((f:Int)<(g:Int))=true:=QY;clear CT h hE h0 hI hgn;go_enter Tryz.func155,Tryz.ntmps155
 go_wp2_with (go_at_call 168;refine(jG.out).mono ?_;rintro e w8 ⟨rfl,Qzd,qf⟩)
 go_ret;exact⟨rfl,Qzd,qf⟩
theorem QUB(P f g:Nat)(us:List Value)(I:In)(hI:Je I)(s:St)(w:World)(h:DI P w us I s)(hfg:f<g)(hgn:g<=I.n)(hE:KE I.X s.cm.b ((I.t.take g).drop f)=0)(hop:s.cm.c=121):
  Calls Tryz.prog 155 #[.pointer (some ⟨P,0,none⟩),.int .i64 (f:Int),.int .i64 (g:Int),.bool true] w (Y5 P I 0 ({s with Y:=Jh I.X s.cm.b ((I.t.take g).drop f)}) w):=by
 have htop:=hI.top;have hk1:=hI.k1;have CT:=WS P f g us I hI s w h QQ hgn;rw[if_pos hE,hE]at CT;have hne:((f:Int)==(g:Int))=false:=QY;have hlt:decide ((f:Int)<(g:Int))=true:=QY;have HI:=Zy hI;have hfb:f<=200:=QQ;have MO:=Zy hop;have HG:=Zy hgn;have bW:=Zy (Xh hfg);have jG:=Zy CT;clear CT h hE hop hI hgn;go_enter Tryz.func155,Tryz.ntmps155
 go_wp2_with ((go_at_call 168;refine(jG.out).mono ?_;rintro e w8 ⟨rfl,⟨vZ,h8⟩,qf⟩;have c31:w8.cell? ⟨P,31,none⟩=some (.int .i64 s.cm.c):=h8.c31;rw[MO.out]at c31;have H8:=Zy h8;clear h8))
 go_ret;exact⟨rfl,⟨vZ,H8.out⟩,qf⟩
theorem QUC(P f g:Nat)(us:List Value)(I:In)(hI:Je I)(s:St)(w:World)(h:DI P w us I s)(hfg:f<g)(hgn:g<=I.n)(hE:KE I.X s.cm.b ((I.t.take g).drop f)=0)(hop:s.cm.c=121):
  Calls Tryz.prog 155 #[.pointer (some ⟨P,0,none⟩),.int .i64 (f:Int),.int .i64 (g:Int),.bool false] w (Y5 P I 0 ({{s with Y:=Jh I.X s.cm.b ((I.t.take g).drop f)}with p:=min (f:Int) I.k}) w):=by
 have htop:=hI.top;have hk1:=hI.k1;have CT:=WS P f g us I hI s w h QQ hgn;rw[if_pos hE,hE]at CT;have hne:((f:Int)==(g:Int))=false:=QY;have hlt:decide ((f:Int)<(g:Int))=true:=QY;have HI:=Zy hI;have hfb:f<=200:=QQ;have MO:=Zy hop;have HG:=Zy hgn;have bW:=Zy (Xh hfg);have jG:=Zy CT;clear CT h hE hop hI hgn;obtain⟨pv,hpv⟩:∃pv:Int,min (f:Int) I.k=pv:=⟨_,rfl⟩;rw[hpv];have HPV:=Zy hpv;clear hpv;have hlk:f<I.k\/I.k<=f:=QQ;rcases hlk with hlk|hlk
 all_goals
  go_enter Tryz.func155,Tryz.ntmps155
  go_wp2_with ((go_at_call 168;refine(jG.out).mono ?_;rintro e w8 ⟨rfl,⟨vZ,h8⟩,qf⟩;have c31:w8.cell? ⟨P,31,none⟩=some (.int .i64 s.cm.c):=h8.c31;rw[MO.out]at c31;have c1:=h8.c1;have yx:=h8.yx;have f35:=h8.free 35;have H8:=Zy h8;clear h8))
  all_goals
   go_ret;exact⟨rfl,⟨_,by rw[<-HPV.out];first|(rw[show min (f:Int) I.k=(f:Int) from QQ];exact H8.out.Ux _)|(rw[show min (f:Int) I.k=(I.k:Int) from QQ];exact H8.out.Ux _)⟩,qf.trans (Yk.set _)⟩
theorem Qzj(P f g:Nat)(whole:Bool)(us:List Value)(I:In)(hI:Je I)(s:St)(w:World)(h:DI P w us I s)(hfg:f<g)(hgn:g<=I.n)(hE:KE I.X s.cm.b ((I.t.take g).drop f)=0)(hop:s.cm.c=99):
  Calls Tryz.prog 155 #[.pointer (some ⟨P,0,none⟩),.int .i64 (f:Int),.int .i64 (g:Int),.bool whole] w (Y5 P I 0 ({Uz I {s with Y:=Jh I.X s.cm.b ((I.t.take g).drop f)} f g []with md:=1,p:=(f:Int)}) w):=by
 have htop:=hI.top;have hk1:=hI.k1;have CT:=WS P f g us I hI s w h QQ hgn;rw[if_pos hE,hE]at CT;have hne:((f:Int)==(g:Int))=false:=QY;have hlt:decide ((f:Int)<(g:Int))=true:=QY;have HI:=Zy hI;have hfb:f<=200:=QQ;have MO:=Zy hop;have HG:=Zy hgn;have bW:=Zy (Xh hfg);have CP:∀w8 vZ,DI P w8 vZ I ({s with Y:=Jh I.X s.cm.b ((I.t.take g).drop f)})->Calls Tryz.prog 169 #[.pointer (some ⟨P,0,none⟩),.int .i64 (f:Int),.int .i64 (g:Int),.slice none 0 0] w8 (zI P I (Uz I ({s with Y:=Jh I.X s.cm.b ((I.t.take g).drop f)}) f g []) w8):=fun w8 vZ h8=>WR P f g vZ I HI.out _ none 0 0 [] w8 h8 (Ints.nil _ _) rfl QQ (fun _=>rfl) bW.out HG.out
 have kS:=Zy CP;clear CP;have hLL:(I.t.take f++[]++I.t.drop g).length<=4096:=QDM;obtain⟨L,hL⟩:∃L,(I.t.take f++[]++I.t.drop g).length=L:=⟨_,rfl⟩;rw[hL]at hLL;have uh:=Zy hL;clear hL;have jG:=Zy CT;clear CT h hE hop hI hgn;go_enter Tryz.func155,Tryz.ntmps155
 go_wp2_with (first|(go_at_call 168;refine(jG.out).mono ?_;rintro e w8 ⟨rfl,⟨vZ,h8⟩,qf⟩;have c31:w8.cell? ⟨P,31,none⟩=some (.int .i64 s.cm.c):=h8.c31;rw[MO.out]at c31;have H8:=Zy h8;clear h8)|(go_at_call 169;go_loud (refine(kS.out _ _ H8.out).mono ?_;rintro e w9 ⟨rfl,⟨us9,h9⟩,qV⟩;clear c31;have c31:w9.cell? ⟨P,31,none⟩=some (.int .i64 s.cm.c):=h9.c31;rw[MO.out]at c31;have Mm:=h9.Mm;have f65:=h9.free 65;have yx:=h9.yx;have f35:=h9.free 35;obtain⟨a9,c9,c34,hc9,hi9⟩:=h9.o34;dsimp only[Uz]at c34;rw[uh.out]at c34;have H9:=Zy h9;clear h9 hi9 hc9))|(go_at_call 166;go_loud (refine(qz _ _ _ QQ QQ QQ QQ).mono ?_;rintro e Hl ⟨rfl,rfl⟩)))
 go_ret;exact⟨rfl,⟨_,((H9.out.qp 0).Ux (Hw f L)).qp 1 |>.Ux (f:Int)⟩,((((qf.trans qV).trans (Yk.set _)).trans (Yk.set _)).trans (Yk.set _)).trans (Yk.set _)⟩
theorem QUD(P f:Nat)(whole:Bool)(us:List Value)(I:In)(hI:Je I)(s:St)(w:World)(h:DI P w us I s)(hgn:f<=I.n)(hop:s.cm.c=99):
  Calls Tryz.prog 155 #[.pointer (some ⟨P,0,none⟩),.int .i64 (f:Int),.int .i64 (f:Int),.bool whole] w (Y5 P I 0 ({Uz I s f f []with md:=1,p:=(f:Int)}) w):=by
 have htop:=hI.top;have hk1:=hI.k1;have hlt:decide ((f:Int)<(f:Int))=false:=QJ;have c31:=h.c31;have HI:=Zy hI;have hfb:f<=200:=QQ;rw[hop]at c31;have MO:=Zy hop;have HG:=Zy hgn;have bW:=Zy (ZB f);have CP:∀w8 vZ,DI P w8 vZ I (s)->Calls Tryz.prog 169 #[.pointer (some ⟨P,0,none⟩),.int .i64 (f:Int),.int .i64 (f:Int),.slice none 0 0] w8 (zI P I (Uz I (s) f f []) w8):=fun w8 vZ h8=>WR P f f vZ I HI.out _ none 0 0 [] w8 h8 (Ints.nil _ _) rfl QQ (fun _=>rfl) bW.out HG.out
 have kS:=Zy CP;clear CP;have hLL:(I.t.take f++[]++I.t.drop f).length<=4096:=QDM;obtain⟨L,hL⟩:∃L,(I.t.take f++[]++I.t.drop f).length=L:=⟨_,rfl⟩;rw[hL]at hLL;have uh:=Zy hL;clear hL;have HX:=Zy h;clear h hop hI hgn;go_enter Tryz.func155,Tryz.ntmps155
 go_wp2_with (first|(go_at_call 169;go_loud (refine(kS.out _ _ HX.out).mono ?_;rintro e w9 ⟨rfl,⟨us9,h9⟩,qV⟩;clear c31;have c31:w9.cell? ⟨P,31,none⟩=some (.int .i64 s.cm.c):=h9.c31;rw[MO.out]at c31;have Mm:=h9.Mm;have f65:=h9.free 65;have yx:=h9.yx;have f35:=h9.free 35;obtain⟨a9,c9,c34,hc9,hi9⟩:=h9.o34;dsimp only[Uz]at c34;rw[uh.out]at c34;have H9:=Zy h9;clear h9 hi9 hc9))|(go_at_call 166;go_loud (refine(qz _ _ _ QQ QQ QQ QQ).mono ?_;rintro e Hl ⟨rfl,rfl⟩)))
 go_ret;exact⟨rfl,⟨_,((H9.out.qp 0).Ux (Hw f L)).qp 1 |>.Ux (f:Int)⟩,((((qV).trans (Yk.set _)).trans (Yk.set _)).trans (Yk.set _)).trans (Yk.set _)⟩
theorem Qzy(P f g:Nat)(whole:Bool)(us:List Value)(I:In)(hI:Je I)(s:St)(w:World)(h:DI P w us I s)(hfg:f<g)(hgn:g<=I.n)(hE:KE I.X s.cm.b ((I.t.take g).drop f)=0)(jU:s.cm.c≠121)(OI:s.cm.c≠99):
  Calls Tryz.prog 155 #[.pointer (some ⟨P,0,none⟩),.int .i64 (f:Int),.int .i64 (g:Int),.bool whole] w (Y5 P I 0 ({Uz I {s with Y:=Jh I.X s.cm.b ((I.t.take g).drop f)} f g []with md:=0,p:=Hw f ((I.t.take f++[]++I.t.drop g).length:Int)}) w):=by
 have htop:=hI.top;have hk1:=hI.k1;have CT:=WS P f g us I hI s w h QQ hgn;rw[if_pos hE,hE]at CT;have hne:((f:Int)==(g:Int))=false:=QY;have hlt:decide ((f:Int)<(g:Int))=true:=QY;have HI:=Zy hI;have hfb:f<=200:=QQ;have n121:(s.cm.c==121)=false:=by simpa using jU
 have n99:(s.cm.c==99)=false:=by simpa using OI
 obtain⟨op,hop⟩:∃op,s.cm.c=op:=⟨_,rfl⟩;rw[hop]at n121 n99;have MO:=Zy hop;have HG:=Zy hgn;have bW:=Zy (Xh hfg);have CP:∀w8 vZ,DI P w8 vZ I ({s with Y:=Jh I.X s.cm.b ((I.t.take g).drop f)})->Calls Tryz.prog 169 #[.pointer (some ⟨P,0,none⟩),.int .i64 (f:Int),.int .i64 (g:Int),.slice none 0 0] w8 (zI P I (Uz I ({s with Y:=Jh I.X s.cm.b ((I.t.take g).drop f)}) f g []) w8):=fun w8 vZ h8=>WR P f g vZ I HI.out _ none 0 0 [] w8 h8 (Ints.nil _ _) rfl QQ (fun _=>rfl) bW.out HG.out
 have kS:=Zy CP;clear CP;have hLL:(I.t.take f++[]++I.t.drop g).length<=4096:=QDM;obtain⟨L,hL⟩:∃L,(I.t.take f++[]++I.t.drop g).length=L:=⟨_,rfl⟩;rw[hL]at hLL;have uh:=Zy hL;clear hL;have jG:=Zy CT;clear CT h hE hop hI hgn;go_enter Tryz.func155,Tryz.ntmps155
 go_wp2_with (first|(go_at_call 168;refine(jG.out).mono ?_;rintro e w8 ⟨rfl,⟨vZ,h8⟩,qf⟩;have c31:w8.cell? ⟨P,31,none⟩=some (.int .i64 s.cm.c):=h8.c31;rw[MO.out]at c31;have H8:=Zy h8;clear h8)|(go_at_call 169;go_loud (refine(kS.out _ _ H8.out).mono ?_;rintro e w9 ⟨rfl,⟨us9,h9⟩,qV⟩;clear c31;have c31:w9.cell? ⟨P,31,none⟩=some (.int .i64 s.cm.c):=h9.c31;rw[MO.out]at c31;have Mm:=h9.Mm;have f65:=h9.free 65;have yx:=h9.yx;have f35:=h9.free 35;obtain⟨a9,c9,c34,hc9,hi9⟩:=h9.o34;dsimp only[Uz]at c34;rw[uh.out]at c34;have H9:=Zy h9;clear h9 hi9 hc9))|(go_at_call 166;go_loud (refine(qz _ _ _ QQ QQ QQ QQ).mono ?_;rintro e Hl ⟨rfl,rfl⟩)))
 go_ret;rw[uh.out];exact⟨rfl,⟨_,H9.out.qp 0 |>.Ux (Hw f L)⟩,((qf.trans qV).trans (Yk.set _)).trans (Yk.set _)⟩
theorem VV(P f g:Nat)(whole:Bool)(us:List Value)(I:In)(hI:Je I)(s:St)(w:World)(h:DI P w us I s)(hfg:f<=g)(hgn:g<=I.n):
  Calls Tryz.prog 155 #[.pointer (some ⟨P,0,none⟩),.int .i64 (f:Int),.int .i64 (g:Int),.bool whole] w (Y5 P I (EY I s f g whole).1 (EY I s f g whole).2 w):=by
 by_cases e:f=g
 ·subst e
  by_cases OI:s.cm.c=99
  ·have:=QUD P f whole us I hI s w h hgn OI
   have jU:¬s.cm.c=121:=QQ;rw[EY,if_neg (by rintro⟨_,hx⟩;exact hx OI),if_neg (by rintro⟨hx,_⟩;omega),if_neg (Nat.lt_irrefl f)];dsimp only;rw[if_neg jU,if_pos OI];exact this
  ·have:=sO P f whole us I s w h OI
   rw[EY,if_pos ⟨rfl,OI⟩];exact this
 ·have hlt:f<g:=by omega
  by_cases hE:KE I.X s.cm.b ((I.t.take g).drop f)=0
  ·rw[EY,if_neg (by rintro⟨hx,_⟩;exact e hx),if_neg (by rintro⟨_,hx⟩;exact hx hE),if_pos hlt]
   dsimp only;by_cases jU:s.cm.c=121
   ·rw[if_pos jU]
    cases whole
    ·exact QUC P f g us I hI s w h hlt hgn hE jU
    ·exact QUB P f g us I hI s w h hlt hgn hE jU
   ·rw[if_neg jU]
    by_cases OI:s.cm.c=99
    ·rw[if_pos OI]
     exact Qzj P f g whole us I hI s w h hlt hgn hE OI
    ·rw[if_neg OI]
     exact Qzy P f g whole us I hI s w h hlt hgn hE jU OI
  ·have:=QYV P f g whole us I hI s w h hlt hgn _ rfl hE
   rw[EY,if_neg (by rintro⟨hx,_⟩;exact e hx),if_pos ⟨hlt,hE⟩];exact this
theorem Jn.le{l:List Int}{n k:Nat}{r:Int}(h:Jn l n k r)(hk:k<n):r<n:=by
 exact QHh
theorem gP{l:List Int}{k:Nat}{key n arg:Int}{op:Bool}{x:Int}{b:Bool}(hk:k<=l.length)(hn:1<=n)(h:Ym l k key n arg op=some (x,b)):0<=x/\x<=l.length:=by
 have hI:∀(f:Int->Int),(∀y,0<=y->y<=(l.length:Int)->0<=f y/\f y<=(l.length:Int))->0<=Yb f n.toNat k/\Yb f n.toNat k<=(l.length:Int):=fun f hf=>KH (f:=f) (lo:=0) (hi:=l.length) hf QQ QQ _
 have hN:=hI (JO l (key==87)) (fun y h0 h1=>yf l _ y h0 h1);have hB:=hI (Kl l (key==66)) (fun y h0 h1=>MC l _ y h0 h1);have hE:=hI (Vi l (key==69)) (fun y h0 h1=>Gh l _ y h0 h1);unfold Ym at h;by_cases c1:key=104
 ·rw[if_pos c1]at h
  exact QHR
 rw[if_neg c1]at h;clear c1;by_cases c1:key=108
 ·rw[if_pos c1]at h
  by_cases c2:(if op=true then(l.length:Int)else l.length-1)<=k
  ·rw[if_pos c2]at h;cases h
  ·rw[if_neg c2]at h
   cases op
   ·simp at h c2;omega
   ·simp at h c2;omega
 rw[if_neg c1]at h;clear c1;by_cases c1:key=48
 ·rw[if_pos c1]at h
  simp at h;omega
 rw[if_neg c1]at h;clear c1;by_cases c1:key=94
 ·rw[if_pos c1]at h
  simp at h;have:0<=Ku l/\Ku l<=l.length:=by
   unfold Ku;split
   ·rename_i r hr;have:=Yo hr;omega
   ·omega
  omega
 rw[if_neg c1]at h;clear c1;by_cases c1:key=98\/key=66
 ·rw[if_pos c1]at h
  exact QHR
 rw[if_neg c1]at h;clear c1;by_cases c1:key=102\/key=116
 ·rw[if_pos c1]at h
  exact QH0
 rw[if_neg c1]at h;clear c1;by_cases c1:key=70\/key=84
 ·rw[if_pos c1]at h
  exact QH1
 rw[if_neg c1]at h;clear c1;by_cases c1:l.length=0
 ·rw[if_pos c1]at h
  cases h
 rw[if_neg c1]at h;by_cases c1:key=36
 ·rw[if_pos c1]at h
  simp at h;omega
 rw[if_neg c1]at h;clear c1;by_cases c1:key=124
 ·rw[if_pos c1]at h
  simp at h;omega
 rw[if_neg c1]at h;clear c1;by_cases c1:key=119\/key=87
 ·rw[if_pos c1]at h
  cases op
  ·simp only[Zt,X3]at h
   by_cases c2:min (Yb (JO l (key==87)) n.toNat k) ((l.length:Int)-1)=k
   ·rw[if_pos c2]at h;cases h
   ·rw[if_neg c2]at h;simp at h;omega
  ·simp only[if_true]at h;simp at h;omega
 rw[if_neg c1]at h;clear c1;by_cases c1:key=101\/key=69
 ·rw[if_pos c1]at h
  exact QIO
 rw[if_neg c1]at h;clear c1;by_cases c1:Kc l k<0
 ·rw[if_pos c1]at h
  cases h
 rw[if_neg c1]at h;simp at h;have:Kc l k<=l.length:=by
  exact QIR
 omega
theorem QQd(l:List Int)(big:Bool)(k:Int)(h0:0<=k)(hl:l.length≠0):0<=Vi l big k/\Vi l big k<=(l.length:Int)-1:=by
 rcases jW l big k h0 with h|h<;>omega
theorem QYA{l:List Int}{k:Nat}{key n arg:Int}{op:Bool}{x:Int}(hk:k<l.length\/k=0)(h:Ym l k key n arg op=some (x,true)):x+1<=l.length/\k+1<=l.length:=by
 unfold Ym at h;by_cases c1:key=104
 ·rw[if_pos c1]at h
  by_cases c2:k=0
  ·rw[if_pos c2]at h;cases h
  ·rw[if_neg c2]at h;simp at h
 rw[if_neg c1]at h;clear c1;by_cases c1:key=108
 ·rw[if_pos c1]at h
  by_cases c2:(if op=true then(l.length:Int)else l.length-1)<=k
  ·rw[if_pos c2]at h;cases h
  ·rw[if_neg c2]at h;simp at h
 rw[if_neg c1]at h;clear c1;by_cases c1:key=48
 ·rw[if_pos c1]at h
  simp at h
 rw[if_neg c1]at h;clear c1;by_cases c1:key=94
 ·rw[if_pos c1]at h
  simp at h
 rw[if_neg c1]at h;clear c1;by_cases c1:key=98\/key=66
 ·rw[if_pos c1]at h
  by_cases c2:k=0
  ·rw[if_pos c2]at h;cases h
  ·rw[if_neg c2]at h;simp at h
 rw[if_neg c1]at h;clear c1;by_cases c1:key=102\/key=116
 ·rw[if_pos c1]at h
  rcases hy:(JY l k arg)[n.toNat-1]? with _|y
  ·rw[hy]at h;cases h
  ·rw[hy]at h
   have hy:=Am _ _ _ _ y (X4 hy);simp at h;split at h<;>omega
 rw[if_neg c1]at h;clear c1;by_cases c1:key=70\/key=84
 ·rw[if_pos c1]at h
  rcases hy:(Jk l k arg)[n.toNat-1]? with _|y
  ·rw[hy]at h;cases h
  ·rw[hy]at h
   simp at h
 rw[if_neg c1]at h;clear c1;by_cases c1:l.length=0
 ·rw[if_pos c1]at h
  cases h
 rw[if_neg c1]at h;have hl:=c1;refine⟨?_,QQ⟩;by_cases c1:key=36
 ·rw[if_pos c1]at h
  simp at h;omega
 rw[if_neg c1]at h;clear c1;by_cases c1:key=124
 ·rw[if_pos c1]at h
  simp at h
 rw[if_neg c1]at h;clear c1;by_cases c1:key=119\/key=87
 ·rw[if_pos c1]at h
  cases op
  ·simp only[Zt,X3]at h
   by_cases c2:min (Yb (JO l (key==87)) n.toNat k) ((l.length:Int)-1)=k
   ·rw[if_pos c2]at h;cases h
   ·rw[if_neg c2]at h;simp at h
  ·simp only[if_true]at h;simp at h
 rw[if_neg c1]at h;clear c1;by_cases c1:key=101\/key=69
 ·rw[if_pos c1]at h
  have hE:=KH (f:=Vi l (key==69)) (lo:=0) (hi:=(l.length:Int)-1) (fun y h0 h1=>QQd l _ y h0 hl) (k:=k) QQ QQ n.toNat;exact QIO
 rw[if_neg c1]at h;clear c1;by_cases c1:Kc l k<0
 ·rw[if_pos c1]at h
  cases h
 rw[if_neg c1]at h;simp at h;have:Kc l k<l.length:=by
  exact QIR
 omega
theorem QUk{l:List Int}{k key count arg:Int}(h:zi l k key count arg true=0):0<=TJ l k key count arg/\TJ l k key count arg<=fA l k key count arg/\fA l k key count arg<=l.length:=by
 by_cases hE:JG l k key count=0
 ·obtain⟨h1,h2,h3,h4,h5,h6⟩:=yg hE
  have h':=h;rw[zi,if_pos hE]at h';rcases hm:Ym l k.toNat key (max 1 count) arg true with _|⟨x,b⟩
  ·rw[hm]at h';simp[bO]at h'
  ·have hb:=gP QQ QQ hm
   rw[TJ,fA,if_pos h,if_pos h,vE,if_pos hE,OO,if_pos hE,hm];cases b
   ·simp only[Fh,qX,Zt,X3];omega
   ·have hi:=QYA QQ hm
    simp only[Fh,qX,if_true];omega
 ·rw[zi,if_neg hE]at h;exact absurd h hE
theorem QQP{l:List Int}{k key count arg:Int}{op:Bool}(hE:JG l k key count=0)(h:Ym l k.toNat key (max 1 count) arg op=none):vE l k key count arg op=0/\OO l k key count arg op=false/\zi l k key count arg op=5:=by
 rw[vE,OO,zi,if_pos hE,if_pos hE,if_pos hE,h];exact⟨rfl,rfl,rfl⟩
theorem QQO{l:List Int}{k key count arg:Int}{op:Bool}{x:Int}{b:Bool}(hE:JG l k key count=0)(h:Ym l k.toNat key (max 1 count) arg op=some (x,b)):vE l k key count arg op=x/\OO l k key count arg op=b/\zi l k key count arg op=0:=by
 rw[vE,OO,zi,if_pos hE,if_pos hE,if_pos hE,h];exact⟨rfl,rfl,rfl⟩
theorem lL{l:List Int}{k key count arg:Int}{op:Bool}(hE:JG l k key count≠0):vE l k key count arg op=0/\OO l k key count arg op=false/\zi l k key count arg op=JG l k key count:=by
 rw[vE,OO,zi,if_neg hE,if_neg hE,if_neg hE];exact⟨rfl,rfl,rfl⟩
theorem QJF{l:List Int}{k key count arg:Int}{op:Bool}:qg (vE l k key count arg op+1):=by
 by_cases hE:JG l k key count=0
 ·obtain⟨h1,h2,h3,h4,h5,h6⟩:=yg hE
  rcases h:Ym l k.toNat key (max 1 count) arg op with _|⟨x,b⟩
  ·rw[(QQP hE h).1];exact⟨QQ,QQ⟩
  ·rw[(QQO hE h).1]
   have:=gP QQ QQ h;exact⟨QQ,QQ⟩
 ·rw[(lL hE).1];exact⟨QQ,QQ⟩
theorem QVw{l:List Int}{k key count arg:Int}{op:Bool}(h:zi l k key count arg op=0):k<=4096:=by
 by_cases hE:JG l k key count=0
 ·obtain⟨h1,h2,h3,h4,h5,h6⟩:=yg hE
  omega
 ·rw[(lL hE).2.2]at h;exact absurd h hE
theorem jm(a:Option Addr)(n c:Nat)(l:List Int)(k key count arg:Int)(w:World)(hl:Ints w a l)(hn:l.length=n)(hn2:n<=9223372036854775807)(hk:qg k):
  Calls Tryz.prog 162 #[.slice a n c,.int .i64 k,Nh key count arg] w (PV (TJ l k key count arg) (fA l k key count arg) (zi l k key count arg true) w):=
 Ff a n c l k key count arg w hl hn hn2 hk QJF QVw
end Go.Proofs.YtmdnepkekekncaaGreat
