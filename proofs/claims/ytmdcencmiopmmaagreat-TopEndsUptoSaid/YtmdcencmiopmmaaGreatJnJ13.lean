/- joined, no condition of its own. -/
import Derived.Test.YtmdcencmiopmmaaGreatJnT
import Derived.Test.YtmdcencmiopmmaaGreatJnJ1
import Derived.Test.YtmdcencmiopmmaaGreatJnJ2
import Derived.Test.YtmdcencmiopmmaaGreatJnJ4
import Derived.Test.YtmdcencmiopmmaaGreatJnJ8
import Derived.Test.YtmdcencmiopmmaaGreatJnJ9
import Derived.Test.YtmdcencmiopmmaaGreatJnJ10
import Derived.Test.YtmdcencmiopmmaaGreatJnJ11
import Derived.Test.YtmdcencmiopmmaaGreatJnJ12
set_option linter.unusedVariables false
set_option linter.unusedSimpArgs false
set_option maxRecDepth 100000
set_option maxHeartbeats 12000000
namespace Go.Proofs.YtmdcencmiopmmaaGreat
open Go.RowKit
def LU(fk d:Int):Int:=if zP d=true then d else fk
def LW(fa d e:Int):Int:=if zP d=true then e else fa
theorem Nq(fk fa:Int)(c:C5)(w:World)(h:fk=0\/zP fk=true):
  Calls Tryz.prog 269 #[.agg #[.int .i64 fk,.int .i64 fa],c.v] w (UU (jK fk c.d) c.a (jU fk fa c.d c.e) (LU fk c.d) (LW fa c.d c.e) (Hl fk c.d) w):=by
 obtain⟨a,b,op,d,e⟩:=c;unfold C5.v;dsimp only;by_cases Rb:d=102
 ·subst Rb;have:=NW fk fa a b op e w;simpa[jK,jU,Hl,LU,LW,zP,Rh]using this
 by_cases h70:d=70
 ·subst h70;have:=Rt fk fa a b op e w;simpa[jK,jU,Hl,LU,LW,zP,Rh]using this
 by_cases h116:d=116
 ·subst h116;have:=NV fk fa a b op e w;simpa[jK,jU,Hl,LU,LW,zP,Rh]using this
 by_cases h84:d=84
 ·subst h84;have:=Rs fk fa a b op e w;simpa[jK,jU,Hl,LU,LW,zP,Rh]using this
 by_cases h59:d=59
 ·subst h59
  by_cases hz:fk=0
  ·subst hz;have:=CZ fa a b op e w;simpa[jK,jU,Hl,LU,LW,zP,Rh]using this
  ·have:=IM fk fa a b op e w hz;simpa[jK,jU,Hl,LU,LW,zP,Rh,hz]using this
 by_cases h44:d=44
 ·subst h44
  by_cases hz:fk=0
  ·subst hz;have:=CX fa a b op e w;simpa[jK,jU,Hl,LU,LW,zP,Rh]using this
  ·rcases h with h|h
   ·exact absurd h hz
   simp only[zP,XI]at h;rcases h with rfl|rfl|rfl|rfl
   ·have:=kR fa a b op e w;simpa[jK,jU,Hl,LU,LW,zP,Rh]using this
   ·have:=Ad fa a b op e w;simpa[jK,jU,Hl,LU,LW,zP,Rh]using this
   ·have:=kP fa a b op e w;simpa[jK,jU,Hl,LU,LW,zP,Rh]using this
   ·have:=Ac fa a b op e w;simpa[jK,jU,Hl,LU,LW,zP,Rh]using this
 have:=Fy fk fa a b op d e w Rb h70 h116 h84 h59 h44;simpa[jK,jU,Hl,LU,LW,zP,Rh,Rb,h70,h116,h84,h59,h44]using this
theorem NF(x y:Nat)(hx:x<18446744073709551616)(hy:y<18446744073709551616)(w:World):
  Calls Tryz.prog 124 #[.int .u64 x,.int .u64 y] w fun e w'=>e=.returned (.tuple #[.int .u64 ((x*y / 18446744073709551616:Nat):Int),.int .u64 ((x*y % 18446744073709551616:Nat):Int)])/\w'=w:=by
 obtain⟨bd,bt,bw,hhi⟩:=Lib.mul64_hi x y hx hy;have ba:=Lib.half_mul_le (a:=x / 4294967296) (b:=y / 4294967296) QQ QQ;have bb:=Lib.half_mul_le (a:=x / 4294967296) (b:=y % 4294967296) QQ QQ;have bc:=Lib.half_mul_le (a:=x % 4294967296) (b:=y / 4294967296) QQ QQ;have ba':x / 4294967296*(y / 4294967296)<18446744073709551616:=QQ;have bb':x / 4294967296*(y % 4294967296)<18446744073709551616:=QQ;have bc':x % 4294967296*(y / 4294967296)<18446744073709551616:=QQ;have bh1:x / 4294967296*(y / 4294967296)+(x / 4294967296*(y % 4294967296)+x % 4294967296*(y % 4294967296) / 4294967296) / 4294967296<18446744073709551616:=QQ;have bh:x / 4294967296*(y / 4294967296)+(x / 4294967296*(y % 4294967296)+x % 4294967296*(y % 4294967296) / 4294967296) / 4294967296+((x / 4294967296*(y % 4294967296)+x % 4294967296*(y % 4294967296) / 4294967296) % 4294967296+x % 4294967296*(y / 4294967296)) / 4294967296<18446744073709551616:=QQ;go_enter Tryz.func124,Tryz.ntmps124
 go_wp2;simp only[Mul64.maskN x hx,Mul64.maskN y hy,Mul64.divN,Mul64.mulN,Mul64.addN,Mul64.wrapN _ bd,Mul64.wrapN _ bb',Mul64.wrapN _ bt,Mul64.maskN _ bt,Mul64.wrapN _ bc',Mul64.wrapN _ bw,Mul64.wrapN _ ba',Mul64.wrapN _ bh1,Mul64.wrapN _ bh,Mul64.wrapM (x*y)];rw[hhi];go_ret2
 exact⟨rfl,rfl⟩
theorem fZ(x y:Nat)(hx:x<18446744073709551616)(hy:y<18446744073709551616)(w:World):
  Calls Tryz.prog 71 #[.int .u64 x,.int .u64 y] w fun e w'=>e=.returned (.tuple #[.int .u64 ((x*y / 18446744073709551616:Nat):Int),.int .u64 ((x*y % 18446744073709551616:Nat):Int)])/\w'=w:=by
 go_enter Tryz.func71,Tryz.ntmps71
 go_wp2_with fail
 refine(NF x y hx hy w).mono ?_;rintro e w' ⟨rfl,rfl⟩;go_wp2;go_ret2
 exact⟨rfl,rfl⟩
def qJ(xs:List Int)(k:Nat):List Int:=(List.replicate k xs).flatten
theorem qG(xs:List Int)(k:Nat):(qJ xs k).length=xs.length*k:=by simp[qJ,Nat.mul_comm]
theorem lW(xs:List Int)(k i:Nat)(h:i<xs.length*k):ix (qJ xs k) i=ix xs (i % xs.length):=by
 induction k generalizing i with
 | zero=>simp at h
 | succ k ih=>
  have e:qJ xs (k+1)=xs++qJ xs k:=by simp[qJ,List.replicate_succ]
  rw[e];by_cases hi:i<xs.length
  ·rw[YN hi,Nat.mod_eq_of_lt hi]
  ·obtain⟨j,rfl⟩:∃j,i=xs.length+j:=⟨i-xs.length,QQ⟩
   rw[KN,ih j (by rw[Nat.mul_succ]at h;omega),Nat.add_mod_left]
noncomputable def Uq(I:In)(s:St)(f g:Nat)(x:List Int):St:={s with O:=I.t.take f++x++I.t.drop g,es:=btF I.t (I.t.take f++x++I.t.drop g)}
noncomputable def Cg(I:In)(s:St)(f g:Nat)(whole:Bool):Int×St:=
 if f=g/\s.cm.c≠99 then(5,s)
 else if f<g/\Ku I.X s.cm.b ((I.t.take g).drop f)≠0 then(Ku I.X s.cm.b ((I.t.take g).drop f),s)
 else
  let s1:=if f<g then {s with Y:=Jh I.X s.cm.b ((I.t.take g).drop f)}else s
  if s.cm.c=121 then(0,if whole then s1 else {s1 with p:=min (f:Int) I.k})
  else if s.cm.c=99 then(0,{Uq I s1 f g []with md:=1,p:=(f:Int)})
  else(0,{Uq I s1 f g []with md:=0,p:=Fp f ((I.t.take f++[]++I.t.drop g).length:Int)})
noncomputable def vT(I:In)(s:St):Int×St:=
 if Hl s.fk s.cm.d≠0 then(Hl s.fk s.cm.d,s)
 else if s.cm.c=0 then
  (
   if zx I.t I.k (jK s.fk s.cm.d) s.cm.a (jU s.fk s.fa s.cm.d s.cm.e) false≠0 then(zx I.t I.k (jK s.fk s.cm.d) s.cm.a (jU s.fk s.fa s.cm.d s.cm.e) false,s)
   else(0,{s with p:=uk I.t I.k (jK s.fk s.cm.d) s.cm.a (jU s.fk s.fa s.cm.d s.cm.e) false,fk:=LU s.fk s.cm.d,fa:=LW s.fa s.cm.d s.cm.e}))
 else if zx I.t I.k (jK s.fk s.cm.d) s.cm.a (jU s.fk s.fa s.cm.d s.cm.e) true≠0 then(zx I.t I.k (jK s.fk s.cm.d) s.cm.a (jU s.fk s.fa s.cm.d s.cm.e) true,s)
 else
  let r:=Cg I s (Pb I.t I.k (jK s.fk s.cm.d) s.cm.a (jU s.fk s.fa s.cm.d s.cm.e)).toNat (au I.t I.k (jK s.fk s.cm.d) s.cm.a (jU s.fk s.fa s.cm.d s.cm.e)).toNat false
  if r.1≠0 then(r.1,r.2)else(0,{r.2 with fk:=LU s.fk s.cm.d,fa:=LW s.fa s.cm.d s.cm.e})
noncomputable def Fg(I:In)(s:St)(i:Nat):Int×St:=
 if zN I.X s.cm.b≠0 then(zN I.X s.cm.b,s)
 else if 200<(I.n:Int)+max 1 s.cm.a*((UK I.X s.cm.b).length:Int)then(2,s)
 else(0,{Uq I s i i (qJ (UK I.X s.cm.b) (max 1 s.cm.a).toNat)with p:=(i:Int)+max 1 s.cm.a*((UK I.X s.cm.b).length:Int)-1})
def chL(I:In)(m:Nat)(f:Int->Int):List Int:=((I.t.take (I.k+m)).drop I.k).map f
noncomputable def eG(I:In)(s:St)(m:Nat)(f:Int->Int):St:=Uq I s I.k (I.k+m) (chL I m f)
noncomputable def Ej(I:In)(s:St):Int×St:=
 if s.cm.d=112 then Fg I s (min (I.k+1) I.n)
 else if s.cm.d=80 then Fg I s I.k
 else if s.cm.d=126 then
  (if I.n=0 then(5,s)else(0,{eG I s (min (max 1 s.cm.a).toNat (I.n-I.k)) qD with p:=min ((I.k:Int)+max 1 s.cm.a) (I.n-1)}))
 else if s.cm.d=114 then
  (if(I.n:Int)<I.k+max 1 s.cm.a then(5,s)else(0,{eG I s (max 1 s.cm.a).toNat (fun _=>s.cm.e)with p:=(I.k:Int)+max 1 s.cm.a-1}))
 else if s.cm.d=105 then(0,{s with md:=1})
 else if s.cm.d=73 then(0,{s with md:=1,p:=Kz I.t})
 else if s.cm.d=97 then(0,{s with md:=1,p:=min ((I.k:Int)+1) I.n})
 else if s.cm.d=65 then(0,{s with md:=1,p:=(I.n:Int)})
 else if s.cm.d=82 then(0,{s with md:=2})
 else(9,s)
noncomputable def Pt(l:List Int)(n:Nat)(around:Bool)(k:Nat)(key:Int):Int×Int×Int:=Classical.epsilon fun r=>CV l (Jr l n n).out around k key r.1 r.2.1 r.2.2
theorem vR{l:List Int}{n:Nat}{around:Bool}{k:Nat}{key a b er:Int}(h:CV l (Jr l n n).out around k key a b er):Pt l n around k key=(a,b,er):=by
 have h':=Classical.epsilon_spec (p:=fun r:Int×Int×Int=>CV l (Jr l n n).out around k key r.1 r.2.1 r.2.2) ⟨(a,b,er),h⟩;obtain⟨h1,h2,h3⟩:=h'.one h;exact Prod.ext h1 (Prod.ext h2 h3)
def Yj(d:Int):Bool:=[104,108,48,94,36,124,119,87,98,66,101,69,37,102,70,116,84,59,44].contains d
noncomputable def Lx(I:In)(s:St):Int×St:=
 if Yj s.cm.d=true then vT I s
 else if s.cm.c=0 then Ej I s
 else if s.cm.d=s.cm.c then Cg I s 0 I.n true
 else if s.cm.d≠105/\s.cm.d≠97 then(9,s)
 else if(Pt I.t I.n (decide (s.cm.d=97)) I.k s.cm.e).2.2≠0 then((Pt I.t I.n (decide (s.cm.d=97)) I.k s.cm.e).2.2,s)
 else Cg I s (Pt I.t I.n (decide (s.cm.d=97)) I.k s.cm.e).1.toNat (Pt I.t I.n (decide (s.cm.d=97)) I.k s.cm.e).2.1.toNat false
theorem mJ(P f:Nat)(whole:Bool)(us:List Value)(I:In)(s:St)(w:World)(h:DI P w us I s)(NZ:s.cm.c≠99):
  Calls Tryz.prog 250 #[.pointer (some ⟨P,0,none⟩),.int .i64 (f:Int),.int .i64 (f:Int),.bool whole] w (Y1 P I 5 s w):=by
 have n99:(s.cm.c !=99)=true:=by simpa using NZ
 have c31:=h.c31;have HX:=Zy h;obtain⟨op,hop⟩:∃op,s.cm.c=op:=⟨_,rfl⟩;rw[hop]at c31 n99;clear h NZ hop;go_enter Tryz.func250,Tryz.ntmps250
 go_wp2;go_ret;exact⟨rfl,⟨_,HX.out⟩,Yx.refl _ _⟩
theorem QQr(P f g:Nat)(whole:Bool)(us:List Value)(I:In)(hI:Je I)(s:St)(w:World)(h:DI P w us I s)(hfg:f<g)(hgn:g<=I.n)(E:Int)(hE:Ku I.X s.cm.b ((I.t.take g).drop f)=E)(h0:E≠0):
  Calls Tryz.prog 250 #[.pointer (some ⟨P,0,none⟩),.int .i64 (f:Int),.int .i64 (g:Int),.bool whole] w (Y1 P I E s w):=by
 have CT:=Wj P f g us I hI s w h QQ hgn;rw[hE,if_neg h0]at CT;have n0:(E !=0)=true:=Q7;have yN:=Zy CT;have hne:((f:Int)==(g:Int))=false:=QY;have hlt:decide ((f:Int)<(g:Int))=true:=QY;clear CT h hE h0 hI hgn;go_enter Tryz.func250,Tryz.ntmps250
 go_wp2_with (go_at_call 277;refine(yN.out).mono ?_;rintro e w8 ⟨rfl,QVt,qj⟩)
 go_ret;exact⟨rfl,QVt,qj⟩
theorem QY6(P f g:Nat)(us:List Value)(I:In)(hI:Je I)(s:St)(w:World)(h:DI P w us I s)(hfg:f<g)(hgn:g<=I.n)(hE:Ku I.X s.cm.b ((I.t.take g).drop f)=0)(hop:s.cm.c=121):
  Calls Tryz.prog 250 #[.pointer (some ⟨P,0,none⟩),.int .i64 (f:Int),.int .i64 (g:Int),.bool true] w (Y1 P I 0 ({s with Y:=Jh I.X s.cm.b ((I.t.take g).drop f)}) w):=by
 have htop:=hI.top;have hk1:=hI.k1;have CT:=Wj P f g us I hI s w h QQ hgn;rw[if_pos hE,hE]at CT;have hne:((f:Int)==(g:Int))=false:=QY;have hlt:decide ((f:Int)<(g:Int))=true:=QY;have HI:=Zy hI;have hfb:f<=200:=QQ;have I8:=Zy hop;have HG:=Zy hgn;have SF:=Zy (Xr hfg);have yN:=Zy CT;clear CT h hE hop hI hgn;go_enter Tryz.func250,Tryz.ntmps250
 go_wp2_with ((go_at_call 277;refine(yN.out).mono ?_;rintro e w8 ⟨rfl,⟨uY,h8⟩,qj⟩;have c31:w8.cell? ⟨P,31,none⟩=some (.int .i64 s.cm.c):=h8.c31;rw[I8.out]at c31;have H8:=Zy h8;clear h8))
 go_ret;exact⟨rfl,⟨uY,H8.out⟩,qj⟩
theorem QY7(P f g:Nat)(us:List Value)(I:In)(hI:Je I)(s:St)(w:World)(h:DI P w us I s)(hfg:f<g)(hgn:g<=I.n)(hE:Ku I.X s.cm.b ((I.t.take g).drop f)=0)(hop:s.cm.c=121):
  Calls Tryz.prog 250 #[.pointer (some ⟨P,0,none⟩),.int .i64 (f:Int),.int .i64 (g:Int),.bool false] w (Y1 P I 0 ({{s with Y:=Jh I.X s.cm.b ((I.t.take g).drop f)}with p:=min (f:Int) I.k}) w):=by
 have htop:=hI.top;have hk1:=hI.k1;have CT:=Wj P f g us I hI s w h QQ hgn;rw[if_pos hE,hE]at CT;have hne:((f:Int)==(g:Int))=false:=QY;have hlt:decide ((f:Int)<(g:Int))=true:=QY;have HI:=Zy hI;have hfb:f<=200:=QQ;have I8:=Zy hop;have HG:=Zy hgn;have SF:=Zy (Xr hfg);have yN:=Zy CT;clear CT h hE hop hI hgn;obtain⟨pv,hpv⟩:∃pv:Int,min (f:Int) I.k=pv:=⟨_,rfl⟩;rw[hpv];have HPV:=Zy hpv;clear hpv;have hlk:f<I.k\/I.k<=f:=QQ;rcases hlk with hlk|hlk
 all_goals
  go_enter Tryz.func250,Tryz.ntmps250
  go_wp2_with ((go_at_call 277;refine(yN.out).mono ?_;rintro e w8 ⟨rfl,⟨uY,h8⟩,qj⟩;have c31:w8.cell? ⟨P,31,none⟩=some (.int .i64 s.cm.c):=h8.c31;rw[I8.out]at c31;have c1:=h8.c1;have xE:=h8.xE;have f35:=h8.free 35;have H8:=Zy h8;clear h8))
  all_goals
   go_ret;exact⟨rfl,⟨_,by rw[<-HPV.out];first|(rw[show min (f:Int) I.k=(f:Int) from QQ];exact H8.out.Uz _)|(rw[show min (f:Int) I.k=(I.k:Int) from QQ];exact H8.out.Uz _)⟩,qj.trans (Yx.set _)⟩
theorem QVP(P f g:Nat)(whole:Bool)(us:List Value)(I:In)(hI:Je I)(s:St)(w:World)(h:DI P w us I s)(hfg:f<g)(hgn:g<=I.n)(hE:Ku I.X s.cm.b ((I.t.take g).drop f)=0)(hop:s.cm.c=99):
  Calls Tryz.prog 250 #[.pointer (some ⟨P,0,none⟩),.int .i64 (f:Int),.int .i64 (g:Int),.bool whole] w (Y1 P I 0 ({Uq I {s with Y:=Jh I.X s.cm.b ((I.t.take g).drop f)} f g []with md:=1,p:=(f:Int)}) w):=by
 have htop:=hI.top;have hk1:=hI.k1;have CT:=Wj P f g us I hI s w h QQ hgn;rw[if_pos hE,hE]at CT;have hne:((f:Int)==(g:Int))=false:=QY;have hlt:decide ((f:Int)<(g:Int))=true:=QY;have HI:=Zy hI;have hfb:f<=200:=QQ;have I8:=Zy hop;have HG:=Zy hgn;have SF:=Zy (Xr hfg);have CP:∀w8 uY,DI P w8 uY I ({s with Y:=Jh I.X s.cm.b ((I.t.take g).drop f)})->Calls Tryz.prog 278 #[.pointer (some ⟨P,0,none⟩),.int .i64 (f:Int),.int .i64 (g:Int),.slice none 0 0] w8 (qp P I (Uq I ({s with Y:=Jh I.X s.cm.b ((I.t.take g).drop f)}) f g []) w8):=fun w8 uY h8=>Wy P f g uY I HI.out _ none 0 0 [] w8 h8 (Ints.nil _ _) rfl QQ (fun _=>rfl) SF.out HG.out
 have jg:=Zy CP;clear CP;have tH:(I.t.take f++[]++I.t.drop g).length<=4096:=QAB;obtain⟨L,hL⟩:∃L,(I.t.take f++[]++I.t.drop g).length=L:=⟨_,rfl⟩;rw[hL]at tH;have kT:=Zy hL;clear hL;have yN:=Zy CT;clear CT h hE hop hI hgn;go_enter Tryz.func250,Tryz.ntmps250
 go_wp2_with (first|(go_at_call 277;refine(yN.out).mono ?_;rintro e w8 ⟨rfl,⟨uY,h8⟩,qj⟩;have c31:w8.cell? ⟨P,31,none⟩=some (.int .i64 s.cm.c):=h8.c31;rw[I8.out]at c31;have H8:=Zy h8;clear h8)|(go_at_call 278;go_loud (refine(jg.out _ _ H8.out).mono ?_;rintro e w9 ⟨rfl,⟨us9,h9⟩,Wq⟩;clear c31;have c31:w9.cell? ⟨P,31,none⟩=some (.int .i64 s.cm.c):=h9.c31;rw[I8.out]at c31;have Lu:=h9.Lu;have f65:=h9.free 65;have xE:=h9.xE;have f35:=h9.free 35;obtain⟨a9,c9,c34,hc9,hi9⟩:=h9.o34;dsimp only[Uq]at c34;rw[kT.out]at c34;have H9:=Zy h9;clear h9 hi9 hc9))|(go_at_call 275;go_loud (refine(Wi _ _ _ QQ QQ QQ QQ).mono ?_;rintro e qB ⟨rfl,rfl⟩)))
 go_ret;exact⟨rfl,⟨_,((H9.out.qF 0).Uz (Fp f L)).qF 1 |>.Uz (f:Int)⟩,((((qj.trans Wq).trans (Yx.set _)).trans (Yx.set _)).trans (Yx.set _)).trans (Yx.set _)⟩
theorem QY8(P f:Nat)(whole:Bool)(us:List Value)(I:In)(hI:Je I)(s:St)(w:World)(h:DI P w us I s)(hgn:f<=I.n)(hop:s.cm.c=99):
  Calls Tryz.prog 250 #[.pointer (some ⟨P,0,none⟩),.int .i64 (f:Int),.int .i64 (f:Int),.bool whole] w (Y1 P I 0 ({Uq I s f f []with md:=1,p:=(f:Int)}) w):=by
 have htop:=hI.top;have hk1:=hI.k1;have hlt:decide ((f:Int)<(f:Int))=false:=QJ;have c31:=h.c31;have HI:=Zy hI;have hfb:f<=200:=QQ;rw[hop]at c31;have I8:=Zy hop;have HG:=Zy hgn;have SF:=Zy (ZB f);have CP:∀w8 uY,DI P w8 uY I (s)->Calls Tryz.prog 278 #[.pointer (some ⟨P,0,none⟩),.int .i64 (f:Int),.int .i64 (f:Int),.slice none 0 0] w8 (qp P I (Uq I (s) f f []) w8):=fun w8 uY h8=>Wy P f f uY I HI.out _ none 0 0 [] w8 h8 (Ints.nil _ _) rfl QQ (fun _=>rfl) SF.out HG.out
 have jg:=Zy CP;clear CP;have tH:(I.t.take f++[]++I.t.drop f).length<=4096:=QAB;obtain⟨L,hL⟩:∃L,(I.t.take f++[]++I.t.drop f).length=L:=⟨_,rfl⟩;rw[hL]at tH;have kT:=Zy hL;clear hL;have HX:=Zy h;clear h hop hI hgn;go_enter Tryz.func250,Tryz.ntmps250
 go_wp2_with (first|(go_at_call 278;go_loud (refine(jg.out _ _ HX.out).mono ?_;rintro e w9 ⟨rfl,⟨us9,h9⟩,Wq⟩;clear c31;have c31:w9.cell? ⟨P,31,none⟩=some (.int .i64 s.cm.c):=h9.c31;rw[I8.out]at c31;have Lu:=h9.Lu;have f65:=h9.free 65;have xE:=h9.xE;have f35:=h9.free 35;obtain⟨a9,c9,c34,hc9,hi9⟩:=h9.o34;dsimp only[Uq]at c34;rw[kT.out]at c34;have H9:=Zy h9;clear h9 hi9 hc9))|(go_at_call 275;go_loud (refine(Wi _ _ _ QQ QQ QQ QQ).mono ?_;rintro e qB ⟨rfl,rfl⟩)))
 go_ret;exact⟨rfl,⟨_,((H9.out.qF 0).Uz (Fp f L)).qF 1 |>.Uz (f:Int)⟩,((((Wq).trans (Yx.set _)).trans (Yx.set _)).trans (Yx.set _)).trans (Yx.set _)⟩
theorem QVO(P f g:Nat)(whole:Bool)(us:List Value)(I:In)(hI:Je I)(s:St)(w:World)(h:DI P w us I s)(hfg:f<g)(hgn:g<=I.n)(hE:Ku I.X s.cm.b ((I.t.take g).drop f)=0)(FU:s.cm.c≠121)(NZ:s.cm.c≠99):
  Calls Tryz.prog 250 #[.pointer (some ⟨P,0,none⟩),.int .i64 (f:Int),.int .i64 (g:Int),.bool whole] w (Y1 P I 0 ({Uq I {s with Y:=Jh I.X s.cm.b ((I.t.take g).drop f)} f g []with md:=0,p:=Fp f ((I.t.take f++[]++I.t.drop g).length:Int)}) w):=by
 have htop:=hI.top;have hk1:=hI.k1;have CT:=Wj P f g us I hI s w h QQ hgn;rw[if_pos hE,hE]at CT;have hne:((f:Int)==(g:Int))=false:=QY;have hlt:decide ((f:Int)<(g:Int))=true:=QY;have HI:=Zy hI;have hfb:f<=200:=QQ;have n121:(s.cm.c==121)=false:=by simpa using FU
 have n99:(s.cm.c==99)=false:=by simpa using NZ
 obtain⟨op,hop⟩:∃op,s.cm.c=op:=⟨_,rfl⟩;rw[hop]at n121 n99;have I8:=Zy hop;have HG:=Zy hgn;have SF:=Zy (Xr hfg);have CP:∀w8 uY,DI P w8 uY I ({s with Y:=Jh I.X s.cm.b ((I.t.take g).drop f)})->Calls Tryz.prog 278 #[.pointer (some ⟨P,0,none⟩),.int .i64 (f:Int),.int .i64 (g:Int),.slice none 0 0] w8 (qp P I (Uq I ({s with Y:=Jh I.X s.cm.b ((I.t.take g).drop f)}) f g []) w8):=fun w8 uY h8=>Wy P f g uY I HI.out _ none 0 0 [] w8 h8 (Ints.nil _ _) rfl QQ (fun _=>rfl) SF.out HG.out
 have jg:=Zy CP;clear CP;have tH:(I.t.take f++[]++I.t.drop g).length<=4096:=QAB;obtain⟨L,hL⟩:∃L,(I.t.take f++[]++I.t.drop g).length=L:=⟨_,rfl⟩;rw[hL]at tH;have kT:=Zy hL;clear hL;have yN:=Zy CT;clear CT h hE hop hI hgn;go_enter Tryz.func250,Tryz.ntmps250
 go_wp2_with (first|(go_at_call 277;refine(yN.out).mono ?_;rintro e w8 ⟨rfl,⟨uY,h8⟩,qj⟩;have c31:w8.cell? ⟨P,31,none⟩=some (.int .i64 s.cm.c):=h8.c31;rw[I8.out]at c31;have H8:=Zy h8;clear h8)|(go_at_call 278;go_loud (refine(jg.out _ _ H8.out).mono ?_;rintro e w9 ⟨rfl,⟨us9,h9⟩,Wq⟩;clear c31;have c31:w9.cell? ⟨P,31,none⟩=some (.int .i64 s.cm.c):=h9.c31;rw[I8.out]at c31;have Lu:=h9.Lu;have f65:=h9.free 65;have xE:=h9.xE;have f35:=h9.free 35;obtain⟨a9,c9,c34,hc9,hi9⟩:=h9.o34;dsimp only[Uq]at c34;rw[kT.out]at c34;have H9:=Zy h9;clear h9 hi9 hc9))|(go_at_call 275;go_loud (refine(Wi _ _ _ QQ QQ QQ QQ).mono ?_;rintro e qB ⟨rfl,rfl⟩)))
 go_ret;rw[kT.out];exact⟨rfl,⟨_,H9.out.qF 0 |>.Uz (Fp f L)⟩,((qj.trans Wq).trans (Yx.set _)).trans (Yx.set _)⟩
theorem U7(P f g:Nat)(whole:Bool)(us:List Value)(I:In)(hI:Je I)(s:St)(w:World)(h:DI P w us I s)(hfg:f<=g)(hgn:g<=I.n):
  Calls Tryz.prog 250 #[.pointer (some ⟨P,0,none⟩),.int .i64 (f:Int),.int .i64 (g:Int),.bool whole] w (Y1 P I (Cg I s f g whole).1 (Cg I s f g whole).2 w):=by
 by_cases e:f=g
 ·subst e
  by_cases NZ:s.cm.c=99
  ·have:=QY8 P f whole us I hI s w h hgn NZ
   have FU:¬s.cm.c=121:=QQ;rw[Cg,if_neg (by rintro⟨_,hx⟩;exact hx NZ),if_neg (by rintro⟨hx,_⟩;omega),if_neg (Nat.lt_irrefl f)];dsimp only;rw[if_neg FU,if_pos NZ];exact this
  ·have:=mJ P f whole us I s w h NZ
   rw[Cg,if_pos ⟨rfl,NZ⟩];exact this
 ·have hlt:f<g:=by omega
  by_cases hE:Ku I.X s.cm.b ((I.t.take g).drop f)=0
  ·rw[Cg,if_neg (by rintro⟨hx,_⟩;exact e hx),if_neg (by rintro⟨_,hx⟩;exact hx hE),if_pos hlt]
   dsimp only;by_cases FU:s.cm.c=121
   ·rw[if_pos FU]
    cases whole
    ·exact QY7 P f g us I hI s w h hlt hgn hE FU
    ·exact QY6 P f g us I hI s w h hlt hgn hE FU
   ·rw[if_neg FU]
    by_cases NZ:s.cm.c=99
    ·rw[if_pos NZ]
     exact QVP P f g whole us I hI s w h hlt hgn hE NZ
    ·rw[if_neg NZ]
     exact QVO P f g whole us I hI s w h hlt hgn hE FU NZ
  ·have:=QQr P f g whole us I hI s w h hlt hgn _ rfl hE
   rw[Cg,if_neg (by rintro⟨hx,_⟩;exact e hx),if_pos ⟨hlt,hE⟩];exact this
theorem Jn.le{l:List Int}{n k:Nat}{r:Int}(h:Jn l n k r)(hk:k<n):r<n:=by
 exact QEG
theorem bD{l:List Int}{k:Nat}{key n arg:Int}{op:Bool}{x:Int}{b:Bool}(hk:k<=l.length)(hn:1<=n)(h:Ye l k key n arg op=some (x,b)):0<=x/\x<=l.length:=by
 have hI:∀(f:Int->Int),(∀y,0<=y->y<=(l.length:Int)->0<=f y/\f y<=(l.length:Int))->0<=YO f n.toNat k/\YO f n.toNat k<=(l.length:Int):=fun f hf=>KE (f:=f) (lo:=0) (hi:=l.length) hf QQ QQ _
 have hN:=hI (JP l (key==87)) (fun y h0 h1=>xw l _ y h0 h1);have hB:=hI (Km l (key==66)) (fun y h0 h1=>Ii l _ y h0 h1);have hE:=hI (VE l (key==69)) (fun y h0 h1=>Fz l _ y h0 h1);unfold Ye at h;by_cases c1:key=104
 ·rw[if_pos c1]at h
  exact QEj
 rw[if_neg c1]at h;clear c1;by_cases c1:key=108
 ·rw[if_pos c1]at h
  by_cases c2:(if op=true then(l.length:Int)else l.length-1)<=k
  ·rw[if_pos c2]at h;cases h
  ·rw[if_neg c2]at h
   cases op
   ·simp at h c2;omega
   ·simp at h c2;omega
 rw[if_neg c1]at h;clear c1;by_cases c1:key=48
 ·rw[if_pos c1]at h
  simp at h;omega
 rw[if_neg c1]at h;clear c1;by_cases c1:key=94
 ·rw[if_pos c1]at h
  simp at h;have:0<=Kz l/\Kz l<=l.length:=by
   unfold Kz;split
   ·rename_i r hr;have:=Yh hr;omega
   ·omega
  omega
 rw[if_neg c1]at h;clear c1;by_cases c1:key=98\/key=66
 ·rw[if_pos c1]at h
  exact QEj
 rw[if_neg c1]at h;clear c1;by_cases c1:key=102\/key=116
 ·rw[if_pos c1]at h
  exact QET
 rw[if_neg c1]at h;clear c1;by_cases c1:key=70\/key=84
 ·rw[if_pos c1]at h
  exact QEa
 rw[if_neg c1]at h;clear c1;by_cases c1:l.length=0
 ·rw[if_pos c1]at h
  cases h
 rw[if_neg c1]at h;by_cases c1:key=36
 ·rw[if_pos c1]at h
  simp at h;omega
 rw[if_neg c1]at h;clear c1;by_cases c1:key=124
 ·rw[if_pos c1]at h
  simp at h;omega
 rw[if_neg c1]at h;clear c1;by_cases c1:key=119\/key=87
 ·rw[if_pos c1]at h
  cases op
  ·simp only[Zt,Xn]at h
   by_cases c2:min (YO (JP l (key==87)) n.toNat k) ((l.length:Int)-1)=k
   ·rw[if_pos c2]at h;cases h
   ·rw[if_neg c2]at h;simp at h;omega
  ·simp only[if_true]at h;simp at h;omega
 rw[if_neg c1]at h;clear c1;by_cases c1:key=101\/key=69
 ·rw[if_pos c1]at h
  exact QFW
 rw[if_neg c1]at h;clear c1;by_cases c1:Ke l k<0
 ·rw[if_pos c1]at h
  cases h
 rw[if_neg c1]at h;simp at h;have:Ke l k<=l.length:=by
  exact QFq
 omega
theorem oW(l:List Int)(big:Bool)(k:Int)(h0:0<=k)(hl:l.length≠0):0<=VE l big k/\VE l big k<=(l.length:Int)-1:=by
 rcases yu l big k h0 with h|h<;>omega
theorem QQ6{l:List Int}{k:Nat}{key n arg:Int}{op:Bool}{x:Int}(hk:k<l.length\/k=0)(h:Ye l k key n arg op=some (x,true)):x+1<=l.length/\k+1<=l.length:=by
 unfold Ye at h;by_cases c1:key=104
 ·rw[if_pos c1]at h
  by_cases c2:k=0
  ·rw[if_pos c2]at h;cases h
  ·rw[if_neg c2]at h;simp at h
 rw[if_neg c1]at h;clear c1;by_cases c1:key=108
 ·rw[if_pos c1]at h
  by_cases c2:(if op=true then(l.length:Int)else l.length-1)<=k
  ·rw[if_pos c2]at h;cases h
  ·rw[if_neg c2]at h;simp at h
 rw[if_neg c1]at h;clear c1;by_cases c1:key=48
 ·rw[if_pos c1]at h
  simp at h
 rw[if_neg c1]at h;clear c1;by_cases c1:key=94
 ·rw[if_pos c1]at h
  simp at h
 rw[if_neg c1]at h;clear c1;by_cases c1:key=98\/key=66
 ·rw[if_pos c1]at h
  by_cases c2:k=0
  ·rw[if_pos c2]at h;cases h
  ·rw[if_neg c2]at h;simp at h
 rw[if_neg c1]at h;clear c1;by_cases c1:key=102\/key=116
 ·rw[if_pos c1]at h
  rcases hy:(JX l k arg)[n.toNat-1]? with _|y
  ·rw[hy]at h;cases h
  ·rw[hy]at h
   have hy:=vF _ _ _ _ y (Xo hy);simp at h;split at h<;>omega
 rw[if_neg c1]at h;clear c1;by_cases c1:key=70\/key=84
 ·rw[if_pos c1]at h
  rcases hy:(Jz l k arg)[n.toNat-1]? with _|y
  ·rw[hy]at h;cases h
  ·rw[hy]at h
   simp at h
 rw[if_neg c1]at h;clear c1;by_cases c1:l.length=0
 ·rw[if_pos c1]at h
  cases h
 rw[if_neg c1]at h;have hl:=c1;refine⟨?_,QQ⟩;by_cases c1:key=36
 ·rw[if_pos c1]at h
  simp at h;omega
 rw[if_neg c1]at h;clear c1;by_cases c1:key=124
 ·rw[if_pos c1]at h
  simp at h
 rw[if_neg c1]at h;clear c1;by_cases c1:key=119\/key=87
 ·rw[if_pos c1]at h
  cases op
  ·simp only[Zt,Xn]at h
   by_cases c2:min (YO (JP l (key==87)) n.toNat k) ((l.length:Int)-1)=k
   ·rw[if_pos c2]at h;cases h
   ·rw[if_neg c2]at h;simp at h
  ·simp only[if_true]at h;simp at h
 rw[if_neg c1]at h;clear c1;by_cases c1:key=101\/key=69
 ·rw[if_pos c1]at h
  have hE:=KE (f:=VE l (key==69)) (lo:=0) (hi:=(l.length:Int)-1) (fun y h0 h1=>oW l _ y h0 hl) (k:=k) QQ QQ n.toNat;exact QFW
 rw[if_neg c1]at h;clear c1;by_cases c1:Ke l k<0
 ·rw[if_pos c1]at h
  cases h
 rw[if_neg c1]at h;simp at h;have:Ke l k<l.length:=by
  exact QFq
 omega
theorem QY2{l:List Int}{k key count arg:Int}(h:zx l k key count arg true=0):0<=Pb l k key count arg/\Pb l k key count arg<=au l k key count arg/\au l k key count arg<=l.length:=by
 by_cases hE:JH l k key count=0
 ·obtain⟨h1,h2,h3,h4,h5,h6⟩:=yQ hE
  have h':=h;rw[zx,if_pos hE]at h';rcases hm:Ye l k.toNat key (max 1 count) arg true with _|⟨x,b⟩
  ·rw[hm]at h';simp[Sm]at h'
  ·have hb:=bD QQ QQ hm
   rw[Pb,au,if_pos h,if_pos h,uk,if_pos hE,NK,if_pos hE,hm];cases b
   ·simp only[EL,WR,Zt,Xn];omega
   ·have hi:=QQ6 QQ hm
    simp only[EL,WR,if_true];omega
 ·rw[zx,if_neg hE]at h;exact absurd h hE
theorem ng{l:List Int}{k key count arg:Int}{op:Bool}(hE:JH l k key count=0)(h:Ye l k.toNat key (max 1 count) arg op=none):uk l k key count arg op=0/\NK l k key count arg op=false/\zx l k key count arg op=5:=by
 rw[uk,NK,zx,if_pos hE,if_pos hE,if_pos hE,h];exact⟨rfl,rfl,rfl⟩
theorem nT{l:List Int}{k key count arg:Int}{op:Bool}{x:Int}{b:Bool}(hE:JH l k key count=0)(h:Ye l k.toNat key (max 1 count) arg op=some (x,b)):uk l k key count arg op=x/\NK l k key count arg op=b/\zx l k key count arg op=0:=by
 rw[uk,NK,zx,if_pos hE,if_pos hE,if_pos hE,h];exact⟨rfl,rfl,rfl⟩
theorem dS{l:List Int}{k key count arg:Int}{op:Bool}(hE:JH l k key count≠0):uk l k key count arg op=0/\NK l k key count arg op=false/\zx l k key count arg op=JH l k key count:=by
 rw[uk,NK,zx,if_neg hE,if_neg hE,if_neg hE];exact⟨rfl,rfl,rfl⟩
theorem QZw{l:List Int}{k key count arg:Int}{op:Bool}:yM (uk l k key count arg op+1):=by
 by_cases hE:JH l k key count=0
 ·obtain⟨h1,h2,h3,h4,h5,h6⟩:=yQ hE
  rcases h:Ye l k.toNat key (max 1 count) arg op with _|⟨x,b⟩
  ·rw[(ng hE h).1];exact⟨QQ,QQ⟩
  ·rw[(nT hE h).1]
   have:=bD QQ QQ h;exact⟨QQ,QQ⟩
 ·rw[(dS hE).1];exact⟨QQ,QQ⟩
theorem QKM{l:List Int}{k key count arg:Int}{op:Bool}(h:zx l k key count arg op=0):k<=4096:=by
 by_cases hE:JH l k key count=0
 ·obtain⟨h1,h2,h3,h4,h5,h6⟩:=yQ hE
  omega
 ·rw[(dS hE).2.2]at h;exact absurd h hE
theorem jW(a:Option Addr)(n c:Nat)(l:List Int)(k key count arg:Int)(w:World)(hl:Ints w a l)(hn:l.length=n)(hn2:n<=9223372036854775807)(hk:yM k):
  Calls Tryz.prog 271 #[.slice a n c,.int .i64 k,MI key count arg] w (NR (Pb l k key count arg) (au l k key count arg) (zx l k key count arg true) w):=
 EI a n c l k key count arg w hl hn hn2 hk QZw QKM
end Go.Proofs.YtmdcencmiopmmaaGreat
