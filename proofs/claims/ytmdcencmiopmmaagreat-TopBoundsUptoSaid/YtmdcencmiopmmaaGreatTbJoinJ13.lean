/- LiftTopBounds: joined, no condition of its own. -/
import Derived.Test.YtmdcencmiopmmaaGreatTbJoinT
import Derived.Test.YtmdcencmiopmmaaGreatTbJoinJ1
import Derived.Test.YtmdcencmiopmmaaGreatTbJoinJ3
import Derived.Test.YtmdcencmiopmmaaGreatTbJoinJ4
import Derived.Test.YtmdcencmiopmmaaGreatTbJoinJ8
import Derived.Test.YtmdcencmiopmmaaGreatTbJoinJ9
import Derived.Test.YtmdcencmiopmmaaGreatTbJoinJ10
import Derived.Test.YtmdcencmiopmmaaGreatTbJoinJ11
import Derived.Test.YtmdcencmiopmmaaGreatTbJoinJ12
set_option linter.unusedVariables false
set_option linter.unusedSimpArgs false
set_option maxRecDepth 100000
set_option maxHeartbeats 12000000
namespace Go.Proofs.YtmdcencmiopmmaaGreat
open Go.RowKit
theorem Il(x y:Nat)(hx:x<18446744073709551616)(hy:y<18446744073709551616)(w:World):
  Calls Tryz.prog 124 #[.int .u64 x,.int .u64 y] w fun e w'=>e=.returned (.tuple #[.int .u64 ((x*y / 18446744073709551616:Nat):Int),.int .u64 ((x*y % 18446744073709551616:Nat):Int)])/\w'=w:=by
 obtain⟨bd,bt,bw,hhi⟩:=Lib.mul64_hi x y hx hy;have ba:=Lib.half_mul_le (a:=x / 4294967296) (b:=y / 4294967296) (by omega) (by omega);have bb:=Lib.half_mul_le (a:=x / 4294967296) (b:=y % 4294967296) (by omega) (by omega);have bc:=Lib.half_mul_le (a:=x % 4294967296) (b:=y / 4294967296) (by omega) (by omega);have ba':x / 4294967296*(y / 4294967296)<18446744073709551616:=by omega
 have bb':x / 4294967296*(y % 4294967296)<18446744073709551616:=by omega
 have bc':x % 4294967296*(y / 4294967296)<18446744073709551616:=by omega
 have bh1:x / 4294967296*(y / 4294967296)+(x / 4294967296*(y % 4294967296)+x % 4294967296*(y % 4294967296) / 4294967296) / 4294967296<18446744073709551616:=by omega
 have bh:x / 4294967296*(y / 4294967296)+(x / 4294967296*(y % 4294967296)+x % 4294967296*(y % 4294967296) / 4294967296) / 4294967296+((x / 4294967296*(y % 4294967296)+x % 4294967296*(y % 4294967296) / 4294967296) % 4294967296+x % 4294967296*(y / 4294967296)) / 4294967296<18446744073709551616:=by omega
 go_enter Tryz.func124,Tryz.ntmps124
 go_wp2;simp only[Mul64.maskN x hx,Mul64.maskN y hy,Mul64.divN,Mul64.mulN,Mul64.addN,Mul64.wrapN _ bd,Mul64.wrapN _ bb',Mul64.wrapN _ bt,Mul64.maskN _ bt,Mul64.wrapN _ bc',Mul64.wrapN _ bw,Mul64.wrapN _ ba',Mul64.wrapN _ bh1,Mul64.wrapN _ bh,Mul64.wrapM (x*y)];rw[hhi];go_ret2
 exact⟨rfl,rfl⟩
theorem Tp(x y:Nat)(hx:x<18446744073709551616)(hy:y<18446744073709551616)(w:World):
  Calls Tryz.prog 71 #[.int .u64 x,.int .u64 y] w fun e w'=>e=.returned (.tuple #[.int .u64 ((x*y / 18446744073709551616:Nat):Int),.int .u64 ((x*y % 18446744073709551616:Nat):Int)])/\w'=w:=by
 go_enter Tryz.func71,Tryz.ntmps71
 go_wp2_with fail
 refine(Il x y hx hy w).mono ?_;rintro e w' ⟨rfl,rfl⟩;go_wp2;go_ret2
 exact⟨rfl,rfl⟩
def Vv(xs:List Int)(k:Nat):List Int:=(List.replicate k xs).flatten
theorem VO(xs:List Int)(k:Nat):(Vv xs k).length=xs.length*k:=by simp[Vv,Nat.mul_comm]
theorem dV(xs:List Int)(k i:Nat)(h:i<xs.length*k):ix (Vv xs k) i=ix xs (i % xs.length):=by
 induction k generalizing i with
 | zero=>simp at h
 | succ k ih=>
  have e:Vv xs (k+1)=xs++Vv xs k:=by simp[Vv,List.replicate_succ]
  rw[e];by_cases hi:i<xs.length
  ·rw[Xj hi,Nat.mod_eq_of_lt hi]
  ·obtain⟨j,rfl⟩:∃j,i=xs.length+j:=⟨i-xs.length,by omega⟩
   rw[Y9,ih j (by rw[Nat.mul_succ]at h;omega),Nat.add_mod_left]
noncomputable def Ja(I:In)(s:St)(f g:Nat)(x:List Int):St:={s with O:=I.t.take f++x++I.t.drop g,es:=btF I.t (I.t.take f++x++I.t.drop g)}
noncomputable def Aq(I:In)(s:St)(f g:Nat)(whole:Bool):Int×St:=
 if f=g/\s.cm.c≠99 then(5,s)
 else if f<g/\Y0 I.X s.cm.b ((I.t.take g).drop f)≠0 then(Y0 I.X s.cm.b ((I.t.take g).drop f),s)
 else
  let s1:=if f<g then {s with Y:=YF I.X s.cm.b ((I.t.take g).drop f)}else s
  if s.cm.c=121 then(0,if whole then s1 else {s1 with p:=min (f:Int) I.k})
  else if s.cm.c=99 then(0,{Ja I s1 f g []with md:=1,p:=(f:Int)})
  else(0,{Ja I s1 f g []with md:=0,p:=DF f ((I.t.take f++[]++I.t.drop g).length:Int)})
noncomputable def ji(I:In)(s:St):Int×St:=
 if Eb s.fk s.cm.d≠0 then(Eb s.fk s.cm.d,s)
 else if s.cm.c=0 then
  (if WW I.t I.k (zI s.fk s.cm.d) s.cm.a (zL s.fk s.fa s.cm.d s.cm.e) false≠0 then(WW I.t I.k (zI s.fk s.cm.d) s.cm.a (zL s.fk s.fa s.cm.d s.cm.e) false,s)
   else(0,{s with p:=yO I.t I.k (zI s.fk s.cm.d) s.cm.a (zL s.fk s.fa s.cm.d s.cm.e) false,fk:=Fe s.fk s.cm.d,fa:=Ff s.fa s.cm.d s.cm.e}))
 else if WW I.t I.k (zI s.fk s.cm.d) s.cm.a (zL s.fk s.fa s.cm.d s.cm.e) true≠0 then(WW I.t I.k (zI s.fk s.cm.d) s.cm.a (zL s.fk s.fa s.cm.d s.cm.e) true,s)
 else
  let r:=Aq I s (NW I.t I.k (zI s.fk s.cm.d) s.cm.a (zL s.fk s.fa s.cm.d s.cm.e)).toNat (RD I.t I.k (zI s.fk s.cm.d) s.cm.a (zL s.fk s.fa s.cm.d s.cm.e)).toNat false
  if r.1≠0 then(r.1,r.2)else(0,{r.2 with fk:=Fe s.fk s.cm.d,fa:=Ff s.fa s.cm.d s.cm.e})
noncomputable def DC(I:In)(s:St)(i:Nat):Int×St:=
 if WH I.X s.cm.b≠0 then(WH I.X s.cm.b,s)
 else if 200<(I.n:Int)+max 1 s.cm.a*((JO I.X s.cm.b).length:Int)then(2,s)
 else(0,{Ja I s i i (Vv (JO I.X s.cm.b) (max 1 s.cm.a).toNat)with p:=(i:Int)+max 1 s.cm.a*((JO I.X s.cm.b).length:Int)-1})
def chL(I:In)(m:Nat)(f:Int->Int):List Int:=((I.t.take (I.k+m)).drop I.k).map f
noncomputable def Te(I:In)(s:St)(m:Nat)(f:Int->Int):St:=Ja I s I.k (I.k+m) (chL I m f)
noncomputable def Be(I:In)(s:St):Int×St:=
 if s.cm.d=112 then DC I s (min (I.k+1) I.n)
 else if s.cm.d=80 then DC I s I.k
 else if s.cm.d=126 then
  (if I.n=0 then(5,s)else(0,{Te I s (min (max 1 s.cm.a).toNat (I.n-I.k)) VL with p:=min ((I.k:Int)+max 1 s.cm.a) (I.n-1)}))
 else if s.cm.d=114 then
  (if(I.n:Int)<I.k+max 1 s.cm.a then(5,s)else(0,{Te I s (max 1 s.cm.a).toNat (fun _=>s.cm.e)with p:=(I.k:Int)+max 1 s.cm.a-1}))
 else if s.cm.d=105 then(0,{s with md:=1})
 else if s.cm.d=73 then(0,{s with md:=1,p:=Yo I.t})
 else if s.cm.d=97 then(0,{s with md:=1,p:=min ((I.k:Int)+1) I.n})
 else if s.cm.d=65 then(0,{s with md:=1,p:=(I.n:Int)})
 else if s.cm.d=82 then(0,{s with md:=2})
 else(9,s)
noncomputable def NC(l:List Int)(n:Nat)(around:Bool)(k:Nat)(key:Int):Int×Int×Int:=Classical.epsilon fun r=>vG l (YO l n n).out around k key r.1 r.2.1 r.2.2
theorem jh{l:List Int}{n:Nat}{around:Bool}{k:Nat}{key a b er:Int}(h:vG l (YO l n n).out around k key a b er):NC l n around k key=(a,b,er):=by
 have h':=Classical.epsilon_spec (p:=fun r:Int×Int×Int=>vG l (YO l n n).out around k key r.1 r.2.1 r.2.2) ⟨(a,b,er),h⟩;obtain⟨h1,h2,h3⟩:=h'.one h;exact Prod.ext h1 (Prod.ext h2 h3)
def Z8(d:Int):Bool:=[104,108,48,94,36,124,119,87,98,66,101,69,37,102,70,116,84,59,44].contains d
noncomputable def Fg(I:In)(s:St):Int×St:=
 if Z8 s.cm.d=true then ji I s
 else if s.cm.c=0 then Be I s
 else if s.cm.d=s.cm.c then Aq I s 0 I.n true
 else if s.cm.d≠105/\s.cm.d≠97 then(9,s)
 else if(NC I.t I.n (decide (s.cm.d=97)) I.k s.cm.e).2.2≠0 then((NC I.t I.n (decide (s.cm.d=97)) I.k s.cm.e).2.2,s)
 else Aq I s (NC I.t I.n (decide (s.cm.d=97)) I.k s.cm.e).1.toNat (NC I.t I.n (decide (s.cm.d=97)) I.k s.cm.e).2.1.toNat false
theorem df(P f:Nat)(whole:Bool)(us:List Value)(I:In)(s:St)(w:World)(h:DI P w us I s)(Iy:s.cm.c≠99):
  Calls Tryz.prog 250 #[.pointer (some ⟨P,0,none⟩),.int .i64 (f:Int),.int .i64 (f:Int),.bool whole] w (Xc P I 5 s w):=by
 have n99:(s.cm.c !=99)=true:=by simpa using Iy
 have c31:=h.c31;have HX:=QQ h;obtain⟨op,hop⟩:∃op,s.cm.c=op:=⟨_,rfl⟩;rw[hop]at c31 n99;clear h Iy hop;go_enter Tryz.func250,Tryz.ntmps250
 go_wp2;go_ret;exact⟨rfl,⟨_,HX.out⟩,Z6.refl _ _⟩
theorem oz(P f g:Nat)(whole:Bool)(us:List Value)(I:In)(hI:YC I)(s:St)(w:World)(h:DI P w us I s)(hfg:f<g)(hgn:g<=I.n)(E:Int)(hE:Y0 I.X s.cm.b ((I.t.take g).drop f)=E)(h0:E≠0):
  Calls Tryz.prog 250 #[.pointer (some ⟨P,0,none⟩),.int .i64 (f:Int),.int .i64 (g:Int),.bool whole] w (Xc P I E s w):=by
 have CT:=Uh P f g us I hI s w h (by omega) hgn;rw[hE,if_neg h0]at CT;have n0:(E !=0)=true:=by simpa using h0
 have zV:=QQ CT;have hne:((f:Int)==(g:Int))=false:=by simp;omega
 have hlt:decide ((f:Int)<(g:Int))=true:=by simp;omega
 clear CT h hE h0 hI hgn;go_enter Tryz.func250,Tryz.ntmps250
 go_wp2_with (go_at_call 277;refine(zV.out).mono ?_;rintro e w8 ⟨rfl,QKU,VG⟩)
 go_ret;exact⟨rfl,QKU,VG⟩
theorem QZL(P f g:Nat)(us:List Value)(I:In)(hI:YC I)(s:St)(w:World)(h:DI P w us I s)(hfg:f<g)(hgn:g<=I.n)(hE:Y0 I.X s.cm.b ((I.t.take g).drop f)=0)(hop:s.cm.c=121):
  Calls Tryz.prog 250 #[.pointer (some ⟨P,0,none⟩),.int .i64 (f:Int),.int .i64 (g:Int),.bool true] w (Xc P I 0 ({s with Y:=YF I.X s.cm.b ((I.t.take g).drop f)}) w):=by
 have htop:=hI.top;have hk1:=hI.k1;have CT:=Uh P f g us I hI s w h (by omega) hgn;rw[if_pos hE,hE]at CT;have hne:((f:Int)==(g:Int))=false:=by simp;omega
 have hlt:decide ((f:Int)<(g:Int))=true:=by simp;omega
 have HI:=QQ hI;have hfb:f<=200:=by omega
 have FM:=QQ hop;have HG:=QQ hgn;have Ol:=QQ (ZR hfg);have zV:=QQ CT;clear CT h hE hop hI hgn;go_enter Tryz.func250,Tryz.ntmps250
 go_wp2_with ((go_at_call 277;refine(zV.out).mono ?_;rintro e w8 ⟨rfl,⟨yA,h8⟩,VG⟩;have c31:w8.cell? ⟨P,31,none⟩=some (.int .i64 s.cm.c):=h8.c31;rw[FM.out]at c31;have H8:=QQ h8;clear h8))
 go_ret;exact⟨rfl,⟨yA,H8.out⟩,VG⟩
theorem QZM(P f g:Nat)(us:List Value)(I:In)(hI:YC I)(s:St)(w:World)(h:DI P w us I s)(hfg:f<g)(hgn:g<=I.n)(hE:Y0 I.X s.cm.b ((I.t.take g).drop f)=0)(hop:s.cm.c=121):
  Calls Tryz.prog 250 #[.pointer (some ⟨P,0,none⟩),.int .i64 (f:Int),.int .i64 (g:Int),.bool false] w (Xc P I 0 ({{s with Y:=YF I.X s.cm.b ((I.t.take g).drop f)}with p:=min (f:Int) I.k}) w):=by
 have htop:=hI.top;have hk1:=hI.k1;have CT:=Uh P f g us I hI s w h (by omega) hgn;rw[if_pos hE,hE]at CT;have hne:((f:Int)==(g:Int))=false:=by simp;omega
 have hlt:decide ((f:Int)<(g:Int))=true:=by simp;omega
 have HI:=QQ hI;have hfb:f<=200:=by omega
 have FM:=QQ hop;have HG:=QQ hgn;have Ol:=QQ (ZR hfg);have zV:=QQ CT;clear CT h hE hop hI hgn;obtain⟨pv,hpv⟩:∃pv:Int,min (f:Int) I.k=pv:=⟨_,rfl⟩;rw[hpv];have nX:=QQ hpv;clear hpv;have hlk:f<I.k\/I.k<=f:=by omega
 rcases hlk with hlk|hlk
 all_goals
  go_enter Tryz.func250,Tryz.ntmps250
  go_wp2_with ((go_at_call 277;refine(zV.out).mono ?_;rintro e w8 ⟨rfl,⟨yA,h8⟩,VG⟩;have c31:w8.cell? ⟨P,31,none⟩=some (.int .i64 s.cm.c):=h8.c31;rw[FM.out]at c31;have c1:=h8.c1;have qW:=h8.qW;have f35:=h8.free 35;have H8:=QQ h8;clear h8))
  all_goals
   go_ret;exact⟨rfl,⟨_,by rw[<-nX.out];first|(rw[show min (f:Int) I.k=(f:Int) by omega];exact H8.out.Jb _)|(rw[show min (f:Int) I.k=(I.k:Int) by omega];exact H8.out.Jb _)⟩,VG.trans (Z6.set _)⟩
theorem QJp(P f g:Nat)(whole:Bool)(us:List Value)(I:In)(hI:YC I)(s:St)(w:World)(h:DI P w us I s)(hfg:f<g)(hgn:g<=I.n)(hE:Y0 I.X s.cm.b ((I.t.take g).drop f)=0)(hop:s.cm.c=99):
  Calls Tryz.prog 250 #[.pointer (some ⟨P,0,none⟩),.int .i64 (f:Int),.int .i64 (g:Int),.bool whole] w (Xc P I 0 ({Ja I {s with Y:=YF I.X s.cm.b ((I.t.take g).drop f)} f g []with md:=1,p:=(f:Int)}) w):=by
 have htop:=hI.top;have hk1:=hI.k1;have CT:=Uh P f g us I hI s w h (by omega) hgn;rw[if_pos hE,hE]at CT;have hne:((f:Int)==(g:Int))=false:=by simp;omega
 have hlt:decide ((f:Int)<(g:Int))=true:=by simp;omega
 have HI:=QQ hI;have hfb:f<=200:=by omega
 have FM:=QQ hop;have HG:=QQ hgn;have Ol:=QQ (ZR hfg);have CP:∀w8 yA,DI P w8 yA I ({s with Y:=YF I.X s.cm.b ((I.t.take g).drop f)})->Calls Tryz.prog 278 #[.pointer (some ⟨P,0,none⟩),.int .i64 (f:Int),.int .i64 (g:Int),.slice none 0 0] w8 (Vt P I (Ja I ({s with Y:=YF I.X s.cm.b ((I.t.take g).drop f)}) f g []) w8):=fun w8 yA h8=>Ug P f g yA I HI.out _ none 0 0 [] w8 h8 (Ints.nil _ _) rfl (by omega) (fun _=>rfl) Ol.out HG.out
 have xz:=QQ CP;clear CP;have mq:(I.t.take f++[]++I.t.drop g).length<=4096:=by have:=hI.len;simp only[QE,QT,Q7,List.length_nil];omega
 obtain⟨L,hL⟩:∃L,(I.t.take f++[]++I.t.drop g).length=L:=⟨_,rfl⟩;rw[hL]at mq;have yV:=QQ hL;clear hL;have zV:=QQ CT;clear CT h hE hop hI hgn;go_enter Tryz.func250,Tryz.ntmps250
 go_wp2_with (first|(go_at_call 277;refine(zV.out).mono ?_;rintro e w8 ⟨rfl,⟨yA,h8⟩,VG⟩;have c31:w8.cell? ⟨P,31,none⟩=some (.int .i64 s.cm.c):=h8.c31;rw[FM.out]at c31;have H8:=QQ h8;clear h8)|(go_at_call 278;go_loud (refine(xz.out _ _ H8.out).mono ?_;rintro e w9 ⟨rfl,⟨us9,h9⟩,VQ⟩;clear c31;have c31:w9.cell? ⟨P,31,none⟩=some (.int .i64 s.cm.c):=h9.c31;rw[FM.out]at c31;have Fp:=h9.Fp;have f65:=h9.free 65;have qW:=h9.qW;have f35:=h9.free 35;obtain⟨a9,c9,c34,hc9,hi9⟩:=h9.o34;dsimp only[Ja]at c34;rw[yV.out]at c34;have H9:=QQ h9;clear h9 hi9 hc9))|(go_at_call 275;go_loud (refine(VX _ _ _ (by omega) (by omega) (by omega) (by omega)).mono ?_;rintro e Lx ⟨rfl,rfl⟩)))
 go_ret;exact⟨rfl,⟨_,((H9.out.VN 0).Jb (DF f L)).VN 1 |>.Jb (f:Int)⟩,((((VG.trans VQ).trans (Z6.set _)).trans (Z6.set _)).trans (Z6.set _)).trans (Z6.set _)⟩
theorem QZN(P f:Nat)(whole:Bool)(us:List Value)(I:In)(hI:YC I)(s:St)(w:World)(h:DI P w us I s)(hgn:f<=I.n)(hop:s.cm.c=99):
  Calls Tryz.prog 250 #[.pointer (some ⟨P,0,none⟩),.int .i64 (f:Int),.int .i64 (f:Int),.bool whole] w (Xc P I 0 ({Ja I s f f []with md:=1,p:=(f:Int)}) w):=by
 have htop:=hI.top;have hk1:=hI.k1;have hlt:decide ((f:Int)<(f:Int))=false:=by simp
 have c31:=h.c31;have HI:=QQ hI;have hfb:f<=200:=by omega
 rw[hop]at c31;have FM:=QQ hop;have HG:=QQ hgn;have Ol:=QQ (QU f);have CP:∀w8 yA,DI P w8 yA I (s)->Calls Tryz.prog 278 #[.pointer (some ⟨P,0,none⟩),.int .i64 (f:Int),.int .i64 (f:Int),.slice none 0 0] w8 (Vt P I (Ja I (s) f f []) w8):=fun w8 yA h8=>Ug P f f yA I HI.out _ none 0 0 [] w8 h8 (Ints.nil _ _) rfl (by omega) (fun _=>rfl) Ol.out HG.out
 have xz:=QQ CP;clear CP;have mq:(I.t.take f++[]++I.t.drop f).length<=4096:=by have:=hI.len;simp only[QE,QT,Q7,List.length_nil];omega
 obtain⟨L,hL⟩:∃L,(I.t.take f++[]++I.t.drop f).length=L:=⟨_,rfl⟩;rw[hL]at mq;have yV:=QQ hL;clear hL;have HX:=QQ h;clear h hop hI hgn;go_enter Tryz.func250,Tryz.ntmps250
 go_wp2_with (first|(go_at_call 278;go_loud (refine(xz.out _ _ HX.out).mono ?_;rintro e w9 ⟨rfl,⟨us9,h9⟩,VQ⟩;clear c31;have c31:w9.cell? ⟨P,31,none⟩=some (.int .i64 s.cm.c):=h9.c31;rw[FM.out]at c31;have Fp:=h9.Fp;have f65:=h9.free 65;have qW:=h9.qW;have f35:=h9.free 35;obtain⟨a9,c9,c34,hc9,hi9⟩:=h9.o34;dsimp only[Ja]at c34;rw[yV.out]at c34;have H9:=QQ h9;clear h9 hi9 hc9))|(go_at_call 275;go_loud (refine(VX _ _ _ (by omega) (by omega) (by omega) (by omega)).mono ?_;rintro e Lx ⟨rfl,rfl⟩)))
 go_ret;exact⟨rfl,⟨_,((H9.out.VN 0).Jb (DF f L)).VN 1 |>.Jb (f:Int)⟩,((((VQ).trans (Z6.set _)).trans (Z6.set _)).trans (Z6.set _)).trans (Z6.set _)⟩
theorem QJo(P f g:Nat)(whole:Bool)(us:List Value)(I:In)(hI:YC I)(s:St)(w:World)(h:DI P w us I s)(hfg:f<g)(hgn:g<=I.n)(hE:Y0 I.X s.cm.b ((I.t.take g).drop f)=0)(Co:s.cm.c≠121)(Iy:s.cm.c≠99):
  Calls Tryz.prog 250 #[.pointer (some ⟨P,0,none⟩),.int .i64 (f:Int),.int .i64 (g:Int),.bool whole] w (Xc P I 0 ({Ja I {s with Y:=YF I.X s.cm.b ((I.t.take g).drop f)} f g []with md:=0,p:=DF f ((I.t.take f++[]++I.t.drop g).length:Int)}) w):=by
 have htop:=hI.top;have hk1:=hI.k1;have CT:=Uh P f g us I hI s w h (by omega) hgn;rw[if_pos hE,hE]at CT;have hne:((f:Int)==(g:Int))=false:=by simp;omega
 have hlt:decide ((f:Int)<(g:Int))=true:=by simp;omega
 have HI:=QQ hI;have hfb:f<=200:=by omega
 have n121:(s.cm.c==121)=false:=by simpa using Co
 have n99:(s.cm.c==99)=false:=by simpa using Iy
 obtain⟨op,hop⟩:∃op,s.cm.c=op:=⟨_,rfl⟩;rw[hop]at n121 n99;have FM:=QQ hop;have HG:=QQ hgn;have Ol:=QQ (ZR hfg);have CP:∀w8 yA,DI P w8 yA I ({s with Y:=YF I.X s.cm.b ((I.t.take g).drop f)})->Calls Tryz.prog 278 #[.pointer (some ⟨P,0,none⟩),.int .i64 (f:Int),.int .i64 (g:Int),.slice none 0 0] w8 (Vt P I (Ja I ({s with Y:=YF I.X s.cm.b ((I.t.take g).drop f)}) f g []) w8):=fun w8 yA h8=>Ug P f g yA I HI.out _ none 0 0 [] w8 h8 (Ints.nil _ _) rfl (by omega) (fun _=>rfl) Ol.out HG.out
 have xz:=QQ CP;clear CP;have mq:(I.t.take f++[]++I.t.drop g).length<=4096:=by have:=hI.len;simp only[QE,QT,Q7,List.length_nil];omega
 obtain⟨L,hL⟩:∃L,(I.t.take f++[]++I.t.drop g).length=L:=⟨_,rfl⟩;rw[hL]at mq;have yV:=QQ hL;clear hL;have zV:=QQ CT;clear CT h hE hop hI hgn;go_enter Tryz.func250,Tryz.ntmps250
 go_wp2_with (first|(go_at_call 277;refine(zV.out).mono ?_;rintro e w8 ⟨rfl,⟨yA,h8⟩,VG⟩;have c31:w8.cell? ⟨P,31,none⟩=some (.int .i64 s.cm.c):=h8.c31;rw[FM.out]at c31;have H8:=QQ h8;clear h8)|(go_at_call 278;go_loud (refine(xz.out _ _ H8.out).mono ?_;rintro e w9 ⟨rfl,⟨us9,h9⟩,VQ⟩;clear c31;have c31:w9.cell? ⟨P,31,none⟩=some (.int .i64 s.cm.c):=h9.c31;rw[FM.out]at c31;have Fp:=h9.Fp;have f65:=h9.free 65;have qW:=h9.qW;have f35:=h9.free 35;obtain⟨a9,c9,c34,hc9,hi9⟩:=h9.o34;dsimp only[Ja]at c34;rw[yV.out]at c34;have H9:=QQ h9;clear h9 hi9 hc9))|(go_at_call 275;go_loud (refine(VX _ _ _ (by omega) (by omega) (by omega) (by omega)).mono ?_;rintro e Lx ⟨rfl,rfl⟩)))
 go_ret;rw[yV.out];exact⟨rfl,⟨_,H9.out.VN 0 |>.Jb (DF f L)⟩,((VG.trans VQ).trans (Z6.set _)).trans (Z6.set _)⟩
theorem KH(P f g:Nat)(whole:Bool)(us:List Value)(I:In)(hI:YC I)(s:St)(w:World)(h:DI P w us I s)(hfg:f<=g)(hgn:g<=I.n):
  Calls Tryz.prog 250 #[.pointer (some ⟨P,0,none⟩),.int .i64 (f:Int),.int .i64 (g:Int),.bool whole] w (Xc P I (Aq I s f g whole).1 (Aq I s f g whole).2 w):=by
 by_cases e:f=g
 ·subst e
  by_cases Iy:s.cm.c=99
  ·have:=QZN P f whole us I hI s w h hgn Iy
   have Co:¬s.cm.c=121:=by omega
   rw[Aq,if_neg (by rintro⟨_,hx⟩;exact hx Iy),if_neg (by rintro⟨hx,_⟩;omega),if_neg (Nat.lt_irrefl f)];dsimp only;rw[if_neg Co,if_pos Iy];exact this
  ·have:=df P f whole us I s w h Iy
   rw[Aq,if_pos ⟨rfl,Iy⟩];exact this
 ·have hlt:f<g:=by omega
  by_cases hE:Y0 I.X s.cm.b ((I.t.take g).drop f)=0
  ·rw[Aq,if_neg (by rintro⟨hx,_⟩;exact e hx),if_neg (by rintro⟨_,hx⟩;exact hx hE),if_pos hlt]
   dsimp only;by_cases Co:s.cm.c=121
   ·rw[if_pos Co]
    cases whole
    ·exact QZM P f g us I hI s w h hlt hgn hE Co
    ·exact QZL P f g us I hI s w h hlt hgn hE Co
   ·rw[if_neg Co]
    by_cases Iy:s.cm.c=99
    ·rw[if_pos Iy]
     exact QJp P f g whole us I hI s w h hlt hgn hE Iy
    ·rw[if_neg Iy]
     exact QJo P f g whole us I hI s w h hlt hgn hE Co Iy
  ·have:=oz P f g whole us I hI s w h hlt hgn _ rfl hE
   rw[Aq,if_neg (by rintro⟨hx,_⟩;exact e hx),if_pos ⟨hlt,hE⟩];exact this
theorem YL.le{l:List Int}{n k:Nat}{r:Int}(h:YL l n k r)(hk:k<n):r<n:=by
 exact QvJ
theorem SK{l:List Int}{k:Nat}{key n arg:Int}{op:Bool}{x:Int}{b:Bool}(hk:k<=l.length)(hn:1<=n)(h:XG l k key n arg op=some (x,b)):0<=x/\x<=l.length:=by
 have hI:∀(f:Int->Int),(∀y,0<=y->y<=(l.length:Int)->0<=f y/\f y<=(l.length:Int))->0<=Xk f n.toNat k/\Xk f n.toNat k<=(l.length:Int):=fun f hf=>Y4 (f:=f) (lo:=0) (hi:=l.length) hf (by omega) (by omega) _
 have hN:=hI (Yj l (key==87)) (fun y h0 h1=>qM l _ y h0 h1);have hB:=hI (Jy l (key==66)) (fun y h0 h1=>Fu l _ y h0 h1);have hE:=hI (K8 l (key==69)) (fun y h0 h1=>C8 l _ y h0 h1);unfold XG at h;by_cases c1:key=104
 ·rw[if_pos c1]at h
  exact Qu9
 rw[if_neg c1]at h;clear c1;by_cases c1:key=108
 ·rw[if_pos c1]at h
  by_cases c2:(if op=true then(l.length:Int)else l.length-1)<=k
  ·rw[if_pos c2]at h;cases h
  ·rw[if_neg c2]at h
   cases op
   ·simp at h c2;omega
   ·simp at h c2;omega
 rw[if_neg c1]at h;clear c1;by_cases c1:key=48
 ·rw[if_pos c1]at h
  simp at h;omega
 rw[if_neg c1]at h;clear c1;by_cases c1:key=94
 ·rw[if_pos c1]at h
  simp at h;have:0<=Yo l/\Yo l<=l.length:=by
   unfold Yo;split
   ·rename_i r hr;have:=XI hr;omega
   ·omega
  omega
 rw[if_neg c1]at h;clear c1;by_cases c1:key=98\/key=66
 ·rw[if_pos c1]at h
  exact Qu9
 rw[if_neg c1]at h;clear c1;by_cases c1:key=102\/key=116
 ·rw[if_pos c1]at h
  exact QvC
 rw[if_neg c1]at h;clear c1;by_cases c1:key=70\/key=84
 ·rw[if_pos c1]at h
  exact QvD
 rw[if_neg c1]at h;clear c1;by_cases c1:l.length=0
 ·rw[if_pos c1]at h
  cases h
 rw[if_neg c1]at h;by_cases c1:key=36
 ·rw[if_pos c1]at h
  simp at h;omega
 rw[if_neg c1]at h;clear c1;by_cases c1:key=124
 ·rw[if_pos c1]at h
  simp at h;omega
 rw[if_neg c1]at h;clear c1;by_cases c1:key=119\/key=87
 ·rw[if_pos c1]at h
  cases op
  ·simp only[Qb,ZM]at h
   by_cases c2:min (Xk (Yj l (key==87)) n.toNat k) ((l.length:Int)-1)=k
   ·rw[if_pos c2]at h;cases h
   ·rw[if_neg c2]at h;simp at h;omega
  ·simp only[if_true]at h;simp at h;omega
 rw[if_neg c1]at h;clear c1;by_cases c1:key=101\/key=69
 ·rw[if_pos c1]at h
  exact Qv4
 rw[if_neg c1]at h;clear c1;by_cases c1:JK l k<0
 ·rw[if_pos c1]at h
  cases h
 rw[if_neg c1]at h;simp at h;have:JK l k<=l.length:=by
  exact Qvn
 omega
theorem gK(l:List Int)(big:Bool)(k:Int)(h0:0<=k)(hl:l.length≠0):0<=K8 l big k/\K8 l big k<=(l.length:Int)-1:=by
 rcases ql l big k h0 with h|h<;>omega
theorem oM{l:List Int}{k:Nat}{key n arg:Int}{op:Bool}{x:Int}(hk:k<l.length\/k=0)(h:XG l k key n arg op=some (x,true)):x+1<=l.length/\k+1<=l.length:=by
 unfold XG at h;by_cases c1:key=104
 ·rw[if_pos c1]at h
  by_cases c2:k=0
  ·rw[if_pos c2]at h;cases h
  ·rw[if_neg c2]at h;simp at h
 rw[if_neg c1]at h;clear c1;by_cases c1:key=108
 ·rw[if_pos c1]at h
  by_cases c2:(if op=true then(l.length:Int)else l.length-1)<=k
  ·rw[if_pos c2]at h;cases h
  ·rw[if_neg c2]at h;simp at h
 rw[if_neg c1]at h;clear c1;by_cases c1:key=48
 ·rw[if_pos c1]at h
  simp at h
 rw[if_neg c1]at h;clear c1;by_cases c1:key=94
 ·rw[if_pos c1]at h
  simp at h
 rw[if_neg c1]at h;clear c1;by_cases c1:key=98\/key=66
 ·rw[if_pos c1]at h
  by_cases c2:k=0
  ·rw[if_pos c2]at h;cases h
  ·rw[if_neg c2]at h;simp at h
 rw[if_neg c1]at h;clear c1;by_cases c1:key=102\/key=116
 ·rw[if_pos c1]at h
  rcases hy:(Xo l k arg)[n.toNat-1]? with _|y
  ·rw[hy]at h;cases h
  ·rw[hy]at h
   have hy:=jT _ _ _ _ y (ZN hy);simp at h;split at h<;>omega
 rw[if_neg c1]at h;clear c1;by_cases c1:key=70\/key=84
 ·rw[if_pos c1]at h
  rcases hy:(X6 l k arg)[n.toNat-1]? with _|y
  ·rw[hy]at h;cases h
  ·rw[hy]at h
   simp at h
 rw[if_neg c1]at h;clear c1;by_cases c1:l.length=0
 ·rw[if_pos c1]at h
  cases h
 rw[if_neg c1]at h;have hl:=c1;refine⟨?_,by omega⟩;by_cases c1:key=36
 ·rw[if_pos c1]at h
  simp at h;omega
 rw[if_neg c1]at h;clear c1;by_cases c1:key=124
 ·rw[if_pos c1]at h
  simp at h
 rw[if_neg c1]at h;clear c1;by_cases c1:key=119\/key=87
 ·rw[if_pos c1]at h
  cases op
  ·simp only[Qb,ZM]at h
   by_cases c2:min (Xk (Yj l (key==87)) n.toNat k) ((l.length:Int)-1)=k
   ·rw[if_pos c2]at h;cases h
   ·rw[if_neg c2]at h;simp at h
  ·simp only[if_true]at h;simp at h
 rw[if_neg c1]at h;clear c1;by_cases c1:key=101\/key=69
 ·rw[if_pos c1]at h
  have hE:=Y4 (f:=K8 l (key==69)) (lo:=0) (hi:=(l.length:Int)-1) (fun y h0 h1=>gK l _ y h0 hl) (k:=k) (by omega) (by omega) n.toNat;exact Qv4
 rw[if_neg c1]at h;clear c1;by_cases c1:JK l k<0
 ·rw[if_pos c1]at h
  cases h
 rw[if_neg c1]at h;simp at h;have:JK l k<l.length:=by
  exact Qvn
 omega
theorem QZF{l:List Int}{k key count arg:Int}(h:WW l k key count arg true=0):0<=NW l k key count arg/\NW l k key count arg<=RD l k key count arg/\RD l k key count arg<=l.length:=by
 by_cases hE:YW l k key count=0
 ·obtain⟨h1,h2,h3,h4,h5,h6⟩:=qN hE
  have h':=h;rw[WW,if_pos hE]at h';rcases hm:XG l k.toNat key (max 1 count) arg true with _|⟨x,b⟩
  ·rw[hm]at h';simp[O8]at h'
  ·have hb:=SK (by omega) (by omega) hm
   rw[NW,RD,if_pos h,if_pos h,yO,if_pos hE,Iu,if_pos hE,hm];cases b
   ·simp only[CZ,U5,Qb,ZM];omega
   ·have hi:=oM (by omega) hm
    simp only[CZ,U5,if_true];omega
 ·rw[WW,if_neg hE]at h;exact absurd h hE
theorem fw{l:List Int}{k key count arg:Int}{op:Bool}(hE:YW l k key count=0)(h:XG l k.toNat key (max 1 count) arg op=none):yO l k key count arg op=0/\Iu l k key count arg op=false/\WW l k key count arg op=5:=by
 rw[yO,Iu,WW,if_pos hE,if_pos hE,if_pos hE,h];exact⟨rfl,rfl,rfl⟩
theorem fo{l:List Int}{k key count arg:Int}{op:Bool}{x:Int}{b:Bool}(hE:YW l k key count=0)(h:XG l k.toNat key (max 1 count) arg op=some (x,b)):yO l k key count arg op=x/\Iu l k key count arg op=b/\WW l k key count arg op=0:=by
 rw[yO,Iu,WW,if_pos hE,if_pos hE,if_pos hE,h];exact⟨rfl,rfl,rfl⟩
theorem TB{l:List Int}{k key count arg:Int}{op:Bool}(hE:YW l k key count≠0):yO l k key count arg op=0/\Iu l k key count arg op=false/\WW l k key count arg op=YW l k key count:=by
 rw[yO,Iu,WW,if_neg hE,if_neg hE,if_neg hE];exact⟨rfl,rfl,rfl⟩
theorem sO{l:List Int}{k key count arg:Int}{op:Bool}:yT (yO l k key count arg op+1):=by
 by_cases hE:YW l k key count=0
 ·obtain⟨h1,h2,h3,h4,h5,h6⟩:=qN hE
  rcases h:XG l k.toNat key (max 1 count) arg op with _|⟨x,b⟩
  ·rw[(fw hE h).1];exact⟨by omega,by omega⟩
  ·rw[(fo hE h).1]
   have:=SK (by omega) (by omega) h;exact⟨by omega,by omega⟩
 ·rw[(TB hE).1];exact⟨by omega,by omega⟩
theorem QXt{l:List Int}{k key count arg:Int}{op:Bool}(h:WW l k key count arg op=0):k<=4096:=by
 by_cases hE:YW l k key count=0
 ·obtain⟨h1,h2,h3,h4,h5,h6⟩:=qN hE
  omega
 ·rw[(TB hE).2.2]at h;exact absurd h hE
theorem zN(a:Option Addr)(n c:Nat)(l:List Int)(k key count arg:Int)(w:World)(hl:Ints w a l)(hn:l.length=n)(hn2:n<=9223372036854775807)(hk:yT k):
  Calls Tryz.prog 271 #[.slice a n c,.int .i64 k,G9 key count arg] w (I7 (NW l k key count arg) (RD l k key count arg) (WW l k key count arg true) w):=
 CQ a n c l k key count arg w hl hn hn2 hk sO QXt
end Go.Proofs.YtmdcencmiopmmaaGreat
