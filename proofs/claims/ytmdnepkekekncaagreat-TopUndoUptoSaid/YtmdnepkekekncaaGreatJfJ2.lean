/- joined, no condition of its own. -/
import Derived.Test.YtmdnepkekekncaaGreatJfJ1
set_option linter.unusedVariables false
set_option linter.unusedSimpArgs false
set_option maxRecDepth 100000
set_option maxHeartbeats 12000000
namespace Go.Proofs.YtmdnepkekekncaaGreat
open Go.RowKit
theorem J6:Tryz.prog.underlying 48=some (.array 27 22):=QX
theorem JF:(Tryz.prog.info? 48).map (·.size)=some 27:=QX
def XB:List Value:=List.replicate 27 (.slice none 0 0)
theorem zu{α:Type}(n:Nat)(v d:α){i:Nat}(h:i<n):(List.replicate n v).getD i d=v:=by simp[List.getElem?_replicate,h]
theorem Iq{i:Nat}(h:i<27):vx XB i=.slice none 0 0:=zu 27 _ _ h
theorem Yd:XB.length=27:=rfl
theorem UF(w:World):(Instr.alloc 48 true (.tuple #[])).run Tryz.prog w=.ok (.pointer (some ⟨w.heap.size,0,none⟩)) (w.alloc (.cells (Xo XB) 48)):=QX
theorem CX(w:World):(Instr.build 48 #[]).run Tryz.prog w=.ok (.agg (Xo XB)) w:=QX
def Slv(vs:List Value):Prop:=∀i,i<vs.length->∃a n c,vx vs i=.slice a n c
theorem Dr:Slv XB:=by
 intro i hi;exact⟨none,0,0,Iq hi⟩
structure EN (w:World) (vs:List Value) (X:List (List Int)):Prop where
 lv:vs.length=27
 lx:X.length=27
 sl:∀i,i<27->Sl w (vx vs i) (rx X i)
theorem EN.keep{w w':World}{vs:List Value}{X:List (List Int)}(h:EN w vs X)(hc:∀p v,w.cell? p=some v->w'.cell? p=some v):EN w' vs X:=
 ⟨h.lv,h.lx,fun i hi=>(h.sl i hi).keep hc⟩
theorem EN.below{w w':World}{vs:List Value}{X:List (List Int)}(h:EN w vs X)(hb:Below w.heap.size w w'):EN w' vs X:=h.keep (Zd hb)
theorem EN.slv{w:World}{vs:List Value}{X:List (List Int)}(h:EN w vs X):Slv vs:=by
 intro i hi;obtain⟨a,n,c,h1,_⟩:=h.sl i (by rw[<-h.lv];exact hi);exact⟨a,n,c,h1⟩
def WK:List (List Int):=List.replicate 27 []
def XG(w:World)(B:Nat)(vs:List Value)(e:TypeId):Prop:=Za w B (Xo vs) e
theorem XG.cell{w:World}{B:Nat}{vs:List Value}{e:TypeId}(h:XG w B vs e){i:Nat}(hi:i<vs.length):w.cell? ⟨B,i,none⟩=some (vx vs i):=by
 rw[Za.cell h i];simp[Xo,vx,hi]
theorem XG.set{w:World}{B:Nat}{vs:List Value}{e:TypeId}(h:XG w B vs e)(i:Nat)(v:Value):XG (w.setCell ⟨B,i,none⟩ v) B (vs.set i v) e:=by
 have:=Za.set h i v;unfold XG
 rwa[show(Xo vs).setIfInBounds i v=Xo (vs.set i v)from by simp[Xo]]at this
theorem XG.free{w:World}{B:Nat}{vs:List Value}{e:TypeId}(h:XG w B vs e)(i:Nat):w.frozen? ⟨B,i,none⟩=false:=Za.free h i
theorem XG.lt{w:World}{B:Nat}{vs:List Value}{e:TypeId}(h:XG w B vs e):B<w.heap.size:=Za.lt h
theorem XG.alloc{w:World}{B:Nat}{vs:List Value}{e:TypeId}(h:XG w B vs e)(o:Obj):XG (w.alloc o) B vs e:=Za.alloc h o
theorem XG.new(w:World)(vs:List Value)(e:TypeId):XG (w.alloc (.cells (Xo vs) e)) w.heap.size vs e:=Za.new w _ e
theorem XG.other{w:World}{B:Nat}{vs:List Value}{e:TypeId}(h:XG w B vs e){a:Addr}(ha:B≠a.block)(u:Value):XG (w.setCell a u) B vs e:=Za.other h ha u
theorem XG.below{w w':World}{B N:Nat}{vs:List Value}{e:TypeId}(h:XG w B vs e)(hb:Below N w w')(hN:B<N):XG w' B vs e:=Za.below h hb hN
theorem XG.grown{w w':World}{B:Nat}{vs:List Value}{e:TypeId}{row:Option Nat}(h:XG w B vs e)(hg:w.grownBy w' row)(hr:some B≠row):XG w' B vs e:=Za.grown h hg hr
theorem XG.ne{w:World}{B:Nat}{us:List Value}{e e':TypeId}{base:Nat}{v:Value}{xs:List Int}(hB:XG w B us e')(h:Own e base w v xs)(he:e≠e'):some B≠v.ownBlock:=h.XP hB he
theorem XG.put{w:World}{B:Nat}{us:List Value}{e e':TypeId}{base:Nat}{v:Value}{xs:List Int}(hB:XG w B us e')(h:Own e base w v xs)(he:e≠e')(i:Nat)(u:Value):Own e base (w.setCell ⟨B,i,none⟩ u) v xs:=h.other (a:=⟨B,i,none⟩) (hB.ne h he) u
theorem UA{ops:Array Oper}{rest:List Oper}{op:Oper}{a:Act}{w:World}{Q:Exit->Act->World->Prop}(hgd:op.guard=none)(x:Operand)(ho:op.op=.load 48 x)
  (B:Nat) (hx:a.eval x=.pointer (some ⟨B,0,none⟩)) (vs:List Value) (e:TypeId) (hB:XG w B vs e) (hl:vs.length=27)
  (h:wpList Tryz.prog ops Q rest (a.put op.dst (.agg (Xo vs))) w):wpList Tryz.prog ops Q (op::rest) a w:=
 wpList_load_row hgd 48 x ho B hx e (Xo vs) (0,0) _ hB J6 rfl (by rw[Yr,hl];exact JF) h
theorem KT{ops:Array Oper}{rest:List Oper}{op:Oper}{a:Act}{w:World}{Q:Exit->Act->World->Prop}(hgd:op.guard=none)(x y:Operand)(ho:op.op=.store 48 x y)
  (B:Nat) (hx:a.eval x=.pointer (some ⟨B,0,none⟩)) (us:List Value) (hy:a.eval y=.agg (Xo us)) (vs:List Value) (e:TypeId) (hB:XG w B vs e) (hl:vs.length=27) (hl2:us.length=27) (hs:Slv us)
  (h:∀w',XG w' B us e->Left B w w'->wpList Tryz.prog ops Q rest (a.put op.dst undef) w'):wpList Tryz.prog ops Q (op::rest) a w:=by
 refine wpList_store_mid hgd 48 x y ho B 0 (Xo us) hx hy ?_ (by rw[Yr,hl2];exact JF) ?_ (h _ ?_ ⟨fun hne hb=>hb.WX hne _ 0,fun hN hb=>below_setCells hN _ 0 hb,size_setCells _ _ _⟩)
 ·intro j hj
  rw[Yr]at hj;rw[XI];exact⟨by rw[hB.cell QQ];rfl,hB.free j⟩
 ·refine Y6 ?_
  intro v hv;obtain⟨i,hi,rfl⟩:=ET hv;obtain⟨a,n,c,hv⟩:=hs i hi;rw[hv];rfl
 ·have:=Za.setCells (Xo us).toList 0 hB
  rw[QYU (by simp[Yr,hl,hl2])]at this;exact this
theorem Left.QWB{B:Nat}{w w':World}(h:Left B w w'){B':Nat}{vs:List Value}{e:TypeId}(hne:B'≠B)(hb:XG w B' vs e):XG w' B' vs e:=h.blk hne hb
theorem K4{w:World}{B:Nat}{vs:List Value}{e:TypeId}(hB:XG w B vs e)(hl:vs.length=27):(loadVar 48 ⟨B,0,none⟩).run Tryz.prog w=.ok (.agg (Xo vs)) w:=
 run_loadVar_row w B e 48 (Xo vs) (0,0) _ hB J6 rfl (by rw[Yr,hl];exact JF)
theorem D8{fn:Func}{s:Tmp}{T:TypeId}(h:fn.results=#[.cell s T]){tmps:Array Value}{P:Program}{w:World}{ad:Addr}{v:Value}(hp:tmps.getD s undef=.pointer (some ad))(hl:(loadVar T ad).run P w=.ok v w):
  (results fn tmps).run P w=.ok v w:=by
 exact QLv
theorem Own.left{e:TypeId}{base B:Nat}{w w':World}{v:Value}{xs:List Int}(h:Own e base w v xs)(hL:Left B w w')(hb:B<base):Own e base w' v xs:=by
 refine⟨h.1,?_⟩;rcases h.2 with hn|⟨g,cap,cur,rfl,hb',hgg,rest⟩
 ·exact .inl hn
 ·exact .inr ⟨g,cap,cur,rfl,hb',hL.blk QQ hgg,rest⟩
def jg(name:Int):Int:=if name=0 then 0 else if 97<=name/\name<=122 then name-97+1 else if 65<=name/\name<=90 then name-65+1 else 0
def jf(name:Int):Bool:=if name=0 then false else if 97<=name/\name<=122 then false else if 65<=name/\name<=90 then true else false
def VQ(name:Int):Bool:=if name=0 then true else if 97<=name/\name<=122 then true else if 65<=name/\name<=90 then true else false
theorem Ka(name:Int)(w:World):
  Calls Tryz.prog 189 #[.int .i64 name] w fun e w'=>e=.returned (.tuple #[.int .i64 (jg name),.bool (jf name),.bool (VQ name)])/\w=w':=by
 unfold jg jf VQ;by_cases h0:name=0
 ·subst h0
  exact QIq
 have h0':(name==0)=false:=Q7;rw[if_neg h0,if_neg h0,if_neg h0];clear h0;by_cases h:97<=name/\name<=122
 ·rw[if_pos h,if_pos h,if_pos h]
  obtain⟨h1,h2⟩:=h;exact QIq
 ·rw[if_neg h,if_neg h,if_neg h]
  by_cases h':65<=name/\name<=90
  ·rw[if_pos h',if_pos h']
   obtain⟨h1,h2⟩:=h';clear h;exact QIq
  ·rw[if_neg h',if_neg h']
   have hd:name<65\/(90<name/\name<97)\/122<name:=QQ;clear h h';rcases hd with h|⟨h,h'⟩|h
   all_goals
    go_enter Tryz.func189,Tryz.ntmps189
    go_wp2
    all_goals
     go_ret3
     exact⟨rfl,rfl⟩
def QZk(X:List (List Int))(w:World)(e:Ending)(w':World):Prop:=
 ∃vs,e=.returned (.agg (Xo vs))/\vs.length=27/\(∀i,i<27->Own 3 w.heap.size w' (vx vs i) (rx X i))/\(∀i j,i<j->j<27->Sep (vx vs i) (vx vs j))/\Below w.heap.size w w'
theorem Ah(vs:List Value)(X:List (List Int))(w:World)(h:EN w vs X)(hX:∀i,i<27->(rx X i).length<=17592186044416):
  Calls Tryz.prog 190 #[.agg (Xo vs)] w (QZk X w):=by
 have hal:=UF;have H:=Zy h;have HX:=Zy hX;clear h hX;have hB0:=(XG.new w vs 48).alloc (.cells (Xo XB) 48);have hB1:=XG.new (w.alloc (.cells (Xo vs) 48)) XB 48;rw[Zu]at hB1;have hacc:=Zo w (.cells (Xo vs) 48) (.cells (Xo XB) 48);have hsz:w.heap.size+2<=((w.alloc (.cells (Xo vs) 48)).alloc (.cells (Xo XB) 48)).heap.size:=QJ;go_enter Tryz.func190,Tryz.ntmps190
 go_upto_region 1 with fail
 change Code.wp _ _ _ _ ((w.alloc (.cells (Xo vs) 48)).alloc (.cells (Xo XB) 48));generalize(w.alloc (.cells (Xo vs) 48)).alloc (.cells (Xo XB) 48)=w1 at *;go_wp2
 go_loopw [4] (fun i wr=>∃k:Nat,i=.int .i64 (k:Int)/\k<=27/\∃us,us.length=27/\XG wr w.heap.size us 48/\XG wr (w.heap.size+1) XB 48/\
   (∀i,i<k->Own 3 (w.heap.size+2) wr (vx us i) (rx X i))/\(∀i j,i<j->j<k->Sep (vx us i) (vx us j))/\(∀i,k<=i->i<27->vx us i=vx vs i)/\Below w.heap.size w wr/\w.heap.size+2<=wr.heap.size) (fun i _=>27-(intOf i).toNat)
 case atStart=>exact⟨0,rfl,QQ,vs,H.out.lv,hB0,hB1,fun i hi=>QQ,fun i j _ hj=>QQ,fun i _ _=>rfl,hacc,hsz⟩
 case round=>
  obtain⟨k,rfl,hk,us,hl,hb0,hb1,hown,hsep,hold,hbel,hs⟩:=hrel;have HL:=Zy hl;have HO:=Zy hown;have HS:=Zy hsep;have HD:=Zy hold;clear hl hown hsep hold;by_cases hlt:k<27
  ·obtain⟨a,n,c,hv,hn,hc1,hc2,hI,h0⟩:=H.out.sl k hlt
   have c0:=hb0.cell (i:=k) QH;have f0:=hb0.free k;rw[HD.out k (ZB _) hlt,hv]at c0;have hI':=hI.below hbel;have HN:=Zy hn;have H0:=Zy h0;have HV:=Zy hv;have i0:(k:Int)<27:=QQ;have hn2:n<=17592186044416:=by have:=HX.out k hlt;rw[HN.out]at this;exact this
   clear hn h0 hv hI hc1 hc2;go_wp2_with (go_at_call 31;refine(XY a n c (rx X k) _ hI' HN.out hn2 H0.out).mono ?_;rintro e w2 ⟨v2,rfl,hown2,JP⟩;obtain⟨a2,n2,c2,rfl⟩:=hown2.form;have QY2:=hb0.below JP hb0.lt;have hc0':=QY2.cell (i:=k) QH;have QvR:=QY2.free k;have hb1':=hb1.below JP hb1.lt)
   go_roundw
   case rel=>
    have hl':us.length=27:=HL.out;have hbs:=JP.size;refine⟨k+1,Qy,QQ,us.set k (.slice a2 n2 c2),by simpa using hl',QY2.set k _,hb1'.other QJ _,fun i hi=>?_,fun i j hij hj=>?_,fun i h1 h2=>?_,(ZE hbel QQ JP).setCell (ZB _) _,by rw[size_setCell];omega⟩
    ·by_cases hik:i=k
     ·subst hik
      rw[YC QQ];exact(hown2.mono QQ).setCell QJ _
     ·rw[ZP (fun h=>hik h.symm)]
      exact((HO.out i QQ).kept JP).setCell QJ _
    ·by_cases hjk:j=k
     ·subst hjk
      rw[YC QQ,ZP QQ];exact(HO.out i QQ).sep hown2
     ·rw[ZP (fun h=>hjk h.symm),ZP QQ]
      exact HS.out i j hij QQ
    ·rw[ZP QQ]
     exact HD.out i QQ h2
   case measure=>simp[intOf];omega
  ·obtain rfl:k=27:=by omega
   have hsl:Slv us:=by
    intro i hi;obtain⟨a,n,c,h⟩:=(HO.out i (by rw[HL.out]at hi;exact hi)).form;exact⟨a,n,c,h⟩
   have bJ:=Zy hsl;clear hsl hlt;go_wp2_with (first|(refine UA rfl _ rfl w.heap.size rfl us _ hb0 HL.out ?_)|(refine KT rfl _ _ rfl (w.heap.size+1) rfl us rfl XB _ hb1 Yd HL.out bJ.out ?_;intro w2 hB2 hL2))
   refine ZC (D8 Tryz.results190 rfl (K4 hB2 HL.out)) rfl ?_;exact⟨us,rfl,HL.out,fun i hi=>((HO.out i hi).left hL2 QQ).mono QQ,HS.out,hL2.Xw QQ hbel⟩
def uF(X:List (List Int))(j:Nat)(y:List Int):List (List Int):=(X.set j y).set 0 y
theorem Pn{us:List Value}(hl:us.length=27)(hs:Slv us)(j:Nat)(a5:Option Addr)(n5 c5:Nat)(a8:Option Addr)(n8 c8:Nat):Slv ((us.set j (.slice a5 n5 c5)).set 0 (.slice a8 n8 c8)):=by
 intro i hi;rw[YK,YK]at hi;by_cases h0:i=0
 ·subst h0
  exact⟨a8,n8,c8,YC (by rw[YK];exact hi) _⟩
 ·rw[ZP (fun e=>h0 e.symm)]
  by_cases hij:i=j
  ·subst hij
   exact⟨a5,n5,c5,YC hi _⟩
  ·rw[ZP (fun e=>hij e.symm)]
   exact hs i hi
def jC(y:List Int)(E:Int)(w:World)(e:Ending)(w':World):Prop:=∃v,e=.returned (.tuple #[v,.int .i64 E])/\Sl w' v y/\Below w.heap.size w w'
def TY(y:List Int):Int:=if y=[]then 6 else 0
theorem I8(vs:List Value)(name:Int)(w:World)(hO:VQ name=false):
  Calls Tryz.prog 177 #[.agg (Xo vs),.int .i64 name] w (jC [] 9 w):=by
 have HO:=Zy hO;clear hO;go_enter Tryz.func177,Tryz.ntmps177
 go_wp2_with (first|(go_at_call 189;refine(Ka _ _).mono ?_;rintro e w1 ⟨rfl,rfl⟩;rw[HO.out]))
 go_ret2
 exact⟨_,rfl,Sl.nil _,ZR _ _⟩
theorem Na(vs:List Value)(X:List (List Int))(name:Int)(j:Nat)(w:World)(h:EN w vs X)(hX:(rx X j).length<=17592186044416)(hI:jg name=(j:Int))(hj:j<27)(hO:VQ name=true):
  Calls Tryz.prog 177 #[.agg (Xo vs),.int .i64 name] w (jC (rx X j) (TY (rx X j)) w):=by
 obtain⟨a1,n1,c1,hv,hn1,hc1,hc2,hI1,h01⟩:=h.sl j hj;rw[hn1]at hX;have HI:=Zy hI;have HO:=Zy hO;have HV:=Zy hv;have om:=Zy hn1;have H01:=Zy h01;have HLV:=Zy h.lv;clear h hI hO hv h01 hn1;have hB0:=XG.new w vs 48;have c0:=hB0.cell (i:=j) (by rw[HLV.out];exact hj);rw[HV.out]at c0;have hacc:=ZR w (.cells (Xo vs) 48);have i0:(j:Int)<27:=QQ;have hI2:=hI1.below hacc;have hsz:(w.alloc (.cells (Xo vs) 48)).heap.size=w.heap.size+1:=QJ;have HSZ:=Zy hsz;clear hsz;by_cases hz:n1=0
 ·have hnil:rx X j=[]:=ZM (by rw[om.out];exact hz)
  subst hz;have hE:TY (rx X j)=6:=by rw[hnil];rfl
  have Qye:=Zy hnil;have HE:=Zy hE;clear hnil hE;go_enter Tryz.func177,Tryz.ntmps177
  go_wp2_with (first|(go_at_call 189;refine(Ka _ _).mono ?_;rintro e w1 ⟨rfl,rfl⟩;rw[HO.out,HI.out]))
  go_ret2
  rw[HE.out,Qye.out];exact⟨_,rfl,Sl.nil _,hacc⟩
 ·have hz':((n1:Int)==0)=false:=by simp;omega
  have hnil:rx X j≠[]:=fun h=>hz (by rw[<-om.out,h];rfl)
  have hE:TY (rx X j)=0:=if_neg hnil;have HE:=Zy hE;clear hnil hz hE;go_enter Tryz.func177,Tryz.ntmps177
  go_wp2_with (first|(go_at_call 189;refine(Ka _ _).mono ?_;rintro e w1 ⟨rfl,rfl⟩;rw[HO.out,HI.out])|((go_at_call 31);refine(XY a1 n1 c1 (rx X j) _ hI2 om.out hX H01.out).mono ?_;rintro e w5 ⟨v5,rfl,hown5,hb5⟩))
  go_ret2
  rw[HE.out];exact⟨_,rfl,hown5.sl,ZE hacc (by rw[HSZ.out];omega) hb5⟩
def QUy(name:Int):Int:=if VQ name=true then jg name else-1
theorem TE(name:Int):(VQ name=false/\jf name=false/\jg name=0)\/(VQ name=true/\0<=jg name/\jg name<27):=by
 unfold VQ jf jg;by_cases h0:name=0
 ·simp[h0]
 ·by_cases h1:97<=name/\name<=122
  ·rw[if_neg h0,if_neg h0,if_neg h0,if_pos h1,if_pos h1,if_pos h1];right;exact⟨by trivial,QQ,QQ⟩
  ·by_cases h2:65<=name/\name<=90
   ·simp only[if_neg h0,if_neg h1,if_pos h2];right;exact⟨by trivial,QQ,QQ⟩
   ·simp only[if_neg h0,if_neg h1,if_neg h2];left;exact⟨by trivial,by trivial,by trivial⟩
def WI(name:Int):Nat:=(jg name).toNat
def KE(X:List (List Int))(name:Int)(t:List Int):Int:=
 if VQ name=false then 9 else if jf name=true then(if 200<(rx X (WI name)).length+t.length then 2 else 0)else if 200<t.length then 2 else 0
def Jh(X:List (List Int))(name:Int)(t:List Int):List (List Int):=
 if VQ name=false then WK else if jf name=true then(if 200<(rx X (WI name)).length+t.length then WK else uF X (WI name) (rx X (WI name)++t))else if 200<t.length then WK else uF X (WI name) t
def UK(X:List (List Int))(name:Int):List Int:=if VQ name=false then[]else rx X (WI name)
def xk(X:List (List Int))(name:Int):Int:=if VQ name=false then 9 else TY (rx X (WI name))
theorem Fv{name:Int}(h:VQ name=true):WI name<27/\jg name=(WI name:Int)/\QUy name=(WI name:Int):=by
 rcases TE name with h1|⟨_,h2,h3⟩
 ·rw[h]at h1;simp at h1
 ·unfold WI QUy
  rw[if_pos h];omega
theorem RX{X:List (List Int)}{name:Int}{t:List Int}(hO:VQ name=false):Jh X name t=WK/\KE X name t=9:=by simp[Jh,KE,hO]
theorem RQ{X:List (List Int)}{name:Int}{t:List Int}(hO:VQ name=true)(hM:jf name=false):Jh X name t=(if 200<t.length then WK else uF X (WI name) t)/\KE X name t=(if 200<t.length then 2 else 0):=by simp[Jh,KE,hO,hM]
theorem Iw{X:List (List Int)}{name:Int}{t:List Int}(hO:VQ name=true)(hM:jf name=true):Jh X name t=(if 200<(rx X (WI name)).length+t.length then WK else uF X (WI name) (rx X (WI name)++t))/\KE X name t=(if 200<(rx X (WI name)).length+t.length then 2 else 0):=by simp[Jh,KE,hO,hM]
theorem rO(vs:List Value)(X:List (List Int))(name:Int)(w:World)(h:EN w vs X)(hX:∀i,i<27->(rx X i).length<=1048576):
  Calls Tryz.prog 177 #[.agg (Xo vs),.int .i64 name] w (jC (UK X name) (xk X name) w):=by
 cases hO:VQ name
 ·rw[UK,xk,if_pos hO,if_pos hO]
  exact I8 vs name w hO
 ·obtain⟨j1,j2,j3⟩:=Fv hO
  rw[UK,xk,if_neg (by simp[hO]),if_neg (by simp[hO])];exact Na vs X name _ w h (by have:=hX _ j1;omega) j2 j1 hO
structure PU (base:Nat) (w:World) (vs:List Value) (X:List (List Int)):Prop where
 lv:vs.length=27
 lx:X.length=27
 ow:∀i,i<27->Own 3 base w (vx vs i) (rx X i)
theorem P9(base:Nat)(w:World):PU base w XB WK:=by
 refine⟨rfl,rfl,fun i hi=>?_⟩;have h1:vx XB i=.slice none 0 0:=Iq hi;have h2:rx WK i=[]:=zu 27 _ _ hi;rw[h1,h2];exact Own.nil _ _ _
theorem PU.bH{base:Nat}{w:World}{vs:List Value}{X:List (List Int)}(h:PU base w vs X):EN w vs X:=⟨h.lv,h.lx,fun i hi=>(h.ow i hi).sl⟩
theorem PU.slv{base:Nat}{w:World}{vs:List Value}{X:List (List Int)}(h:PU base w vs X):Slv vs:=h.bH.slv
def We(Y:List (List Int))(E:Int)(w:World)(e:Ending)(w':World):Prop:=∃vs,e=.returned (.tuple #[.agg (Xo vs),.int .i64 E])/\PU w.heap.size w' vs Y/\Below w.heap.size w w'
theorem P8{w:World}{N:Nat}{us:List Value}{X:List (List Int)}{j:Nat}{y:List Int}{v v2:Value}(hl:us.length=27)(hx:X.length=27)(hj:j<27)(h:∀i,i<27->i≠j->Own 3 N w (vx us i) (rx X i))(h1:Own 3 N w v y)(h2:Own 3 N w v2 y):
  PU N w ((us.set j v).set 0 v2) (uF X j y):=by
 refine⟨by simpa using hl,by simpa[uF]using hx,fun i hi=>?_⟩;unfold uF;by_cases h0:i=0
 ·subst h0
  rw[YC QY,ja QY];exact h2
 ·rw[ZP (fun e=>h0 e.symm),jT (fun e=>h0 e.symm)]
  by_cases hij:i=j
  ·subst hij
   rw[YC QQ,ja QQ];exact h1
  ·rw[ZP (fun e=>hij e.symm),jT (fun e=>hij e.symm)]
   exact h i hi hij
theorem Fu(vs:List Value)(X:List (List Int))(name:Int)(tv:Value)(w:World)(hO:VQ name=false):
  Calls Tryz.prog 178 #[.agg (Xo vs),.int .i64 name,tv] w (We WK 9 w):=by
 have HO:=Zy hO;clear hO;have hal:=UF;have hbl:=CX;have hB1:=XG.new (w.alloc (.cells (Xo vs) 48)) XB 48;rw[Zu]at hB1;have hacc:=Zo w (.cells (Xo vs) 48) (.cells (Xo XB) 48);go_enter Tryz.func178,Tryz.ntmps178
 go_wp2_with (first|(go_at_call 189;refine(Ka _ _).mono ?_;rintro e w1 ⟨rfl,rfl⟩;rw[HO.out])|(refine KT rfl _ _ rfl (w.heap.size+1) rfl XB rfl XB _ hB1 Yd Yd Dr ?_;intro w2 hB2 hL2))
 exact QLA
theorem zZ(vs:List Value)(X:List (List Int))(name:Int)(j:Nat)(mo:Bool)(a:Option Addr)(n c:Nat)(w:World)(h:EN w vs X)(hI:jg name=(j:Int))(hj:j<27)(hM:jf name=mo)(hO:VQ name=true)
  (hl:200<n\/(mo=true/\n<=200/\200<(rx X j).length+n)) (hn:n<=9223372036854775807):
  Calls Tryz.prog 178 #[.agg (Xo vs),.int .i64 name,.slice a n c] w (We WK 2 w):=by
 obtain⟨a1,n1,c1,hv,hn1,hc1,hc2,hI1,h0⟩:=h.sl j hj;rw[hn1]at hl;have HI:=Zy hI;have HM:=Zy hM;have HO:=Zy hO;have HLV:=Zy h.lv;have HV:=Zy hv;clear hI hM hO h hv h0 hI1 hn1;have hal:=UF;have hbl:=CX;have hB0:=(XG.new w vs 48).alloc (.cells (Xo XB) 48);have c0:=hB0.cell (i:=j) (by rw[HLV.out];exact hj);rw[HV.out]at c0;have hB1:=XG.new (w.alloc (.cells (Xo vs) 48)) XB 48;rw[Zu]at hB1;have hacc:=Zo w (.cells (Xo vs) 48) (.cells (Xo XB) 48);have i0:(j:Int)<27:=QQ;rcases hl with hl|⟨rfl,hl1,hl2⟩
 all_goals
  go_enter Tryz.func178,Tryz.ntmps178
  go_upto_region 1 with fail
  change Code.wp _ _ _ _ ((w.alloc (.cells (Xo vs) 48)).alloc (.cells (Xo XB) 48));generalize(w.alloc (.cells (Xo vs) 48)).alloc (.cells (Xo XB) 48)=w1 at *;go_wp2_with (first|(go_at_call 189;refine(Ka _ _).mono ?_;rintro e w1 ⟨rfl,rfl⟩;rw[HO.out,HM.out,HI.out])|(refine KT rfl _ _ rfl (w.heap.size+1) rfl XB rfl XB _ hB1 Yd Yd Dr ?_;intro w2 hB2 hL2))
  exact QLA
theorem Fj(vs:List Value)(X:List (List Int))(name:Int)(j:Nat)(a:Option Addr)(n c:Nat)(t:List Int)(w:World)(h:EN w vs X)(hX:∀i,i<27->(rx X i).length<=17592186044416)(hI:jg name=(j:Int))(hj:j<27)(hM:jf name=false)(hO:VQ name=true)
  (ht:Ints w a t) (hn:t.length=n) (h0:a=none->n=0) (hl:n<=200):
  Calls Tryz.prog 178 #[.agg (Xo vs),.int .i64 name,.slice a n c] w (We (uF X j t) 0 w):=by
 have H:=Zy h;have HX:=Zy hX;have HI:=Zy hI;have HM:=Zy hM;have HO:=Zy hO;have HN:=Zy hn;have HA:=Zy h0;clear h hX hI hM hO hn h0;have hal:=UF;have hB0:=(XG.new w vs 48).alloc (.cells (Xo XB) 48);have hB1:=XG.new (w.alloc (.cells (Xo vs) 48)) XB 48;rw[Zu]at hB1;have hacc:=Zo w (.cells (Xo vs) 48) (.cells (Xo XB) 48);have hsz:w.heap.size+2<=((w.alloc (.cells (Xo vs) 48)).alloc (.cells (Xo XB) 48)).heap.size:=QJ;have i0:(j:Int)<27:=QQ;go_enter Tryz.func178,Tryz.ntmps178
 go_upto_region 1 with fail
 change Code.wp _ _ _ _ ((w.alloc (.cells (Xo vs) 48)).alloc (.cells (Xo XB) 48));generalize(w.alloc (.cells (Xo vs) 48)).alloc (.cells (Xo XB) 48)=w1 at *;go_wp2_with (first|(go_at_call 189;refine(Ka _ _).mono ?_;rintro e w1 ⟨rfl,rfl⟩;rw[HO.out,HM.out,HI.out])|(refine UA rfl _ rfl w.heap.size rfl vs _ hB0 H.out.lv ?_))
 refine(Ah vs X _ (H.out.below hacc) HX.out).mono ?_;rintro e w2 ⟨us,rfl,RI,hown,hsep,hb2⟩;have IZ:=Zy RI;have HOW:=Zy hown;have HSE:=Zy hsep;clear RI hown hsep;have QJC:=hB1.below hb2 hB1.lt;have hB2:=XG.new w2 XB 48;have JP:=ZE hacc QQ hb2;have UX:=JP.alloc (by have:=hb2.size;omega) (.cells (Xo XB) 48);have hz2:w.heap.size+2<=w2.heap.size:=by have:=hb2.size;omega
 have iM:Slv us:=fun i hi=>by
  exact QLq
 have L6:=QJC.alloc (.cells (Xo XB) 48);have nE:=Zy iM;clear iM;go_wp2_with (refine KT rfl _ _ rfl w2.heap.size rfl us rfl XB _ hB2 Yd IZ.out nE.out ?_;intro w4 hB4 hL4;have Ex:=hL4.size;rw[Zu]at Ex;have JR:=hL4.QWB QQ L6;have Ud:=hL4.Xw (ZB _) (ZR w2 (.cells (Xo XB) 48));have Uc:=hL4.Xw QQ UX;clear hL4 UX L6 hB2)
 have hT:Ints w4 a t:=ht.below Uc;have QUi:w2.heap.size<w4.heap.size:=QQ;have HZ4:=Zy Ex;clear Ex;go_wp2_with ((go_at_call 31);refine(XY a n c t _ hT HN.out QQ HA.out).mono ?_;rintro e w5 ⟨v5,rfl,hown5,hb5⟩;obtain⟨a5,n5,c5,rfl⟩:=hown5.form;have qU:=hB4.below hb5 hB4.lt;have f6:=qU.free j;have c6:=qU.cell (i:=j) (by rw[IZ.out];exact hj))
 have BD:=hown5.setCell (a:=⟨w2.heap.size,j,none⟩) QUi (.slice a5 n5 c5);obtain⟨g1,g2,g3,g4,g5⟩:=BD.sl.get;have G1:=Zy g1;have G5:=Zy g5;have hn5:n5<=200:=by rw[<-g1,HN.out];exact hl
 have Bc:=qU.set j (.slice a5 n5 c5);have lZ:=(ZE Uc QQ hb5).setCell (p:=⟨w2.heap.size,j,none⟩) Qv (.slice a5 n5 c5);have hd7:=(ZE Ud QQ hb5).setCell (p:=⟨w2.heap.size,j,none⟩) (ZB _) (.slice a5 n5 c5);have hz7:w4.heap.size<=(w5.setCell ⟨w2.heap.size,j,none⟩ (.slice a5 n5 c5)).heap.size:=by rw[size_setCell];exact hb5.size
 have hU7:(us.set j (.slice a5 n5 c5)).length=27:=by rw[YK,IZ.out]
 have HU7:=Zy hU7;have QJk:=(JR.below hb5 QQ).other (a:=⟨w2.heap.size,j,none⟩) QY (.slice a5 n5 c5);clear g1 g5 qU hU7;go_wp2_with (first|((go_at_call 31);refine(XY a5 n5 c5 t _ g4 G1.out QQ G5.out).mono ?_;rintro e w8 ⟨v8,rfl,xx,XH⟩;obtain⟨a8,n8,c8,rfl⟩:=xx.form;have Uq:=Bc.below XH Bc.lt;have f8:=Uq.free 0;have e8:=Uq.cell (i:=0) (by rw[HU7.out];omega);have U7:=Uq.set 0 (.slice a8 n8 c8);have HU9:=Zy (show((us.set j (.slice a5 n5 c5)).set 0 (.slice a8 n8 c8)).length=27 by rw[YK,HU7.out]);have QJj:=(QJk.below XH QQ).other (a:=⟨w2.heap.size,0,none⟩) QY (.slice a8 n8 c8);have HS9:=Zy (Pn IZ.out nE.out j a5 n5 c5 a8 n8 c8))|(refine UA rfl _ rfl w2.heap.size rfl _ _ U7 HU9.out ?_)|(refine KT rfl _ _ rfl (w.heap.size+1) rfl ((us.set j (.slice a5 n5 c5)).set 0 (.slice a8 n8 c8)) rfl XB _ QJj Yd HU9.out HS9.out ?_;intro Hl aX zk))
 have vC:=XH.size;refine ZC (J7 Tryz.results178 rfl (K4 aX HU9.out)) rfl ⟨_,rfl,P8 IZ.out H.out.lx hj (fun i hi hij=>?_) ?_ ?_,zk.Xw QQ ((ZE lZ QQ XH).setCell Qv _)⟩
 ·exact(((HOW.out i hi).kept ((ZE hd7 QQ XH).setCell (p:=⟨w2.heap.size,0,none⟩) (ZB _) _)).left zk QQ).mono QQ
 ·exact(((BD.kept XH).setCell (by exact QUi) _).left zk QQ).mono QQ
 ·exact((xx.setCell QDG _).left zk QQ).mono QQ
theorem Cg(vs:List Value)(X:List (List Int))(name:Int)(j:Nat)(a:Option Addr)(n c:Nat)(t:List Int)(w:World)(h:EN w vs X)(hX:∀i,i<27->(rx X i).length<=17592186044416)(hI:jg name=(j:Int))(hj:j<27)(hM:jf name=true)(hO:VQ name=true)
  (ht:Ints w a t) (hn:t.length=n) (h0:a=none->n=0) (hl:n<=200) (hl2:(rx X j).length+n<=200):
  Calls Tryz.prog 178 #[.agg (Xo vs),.int .i64 name,.slice a n c] w (We (uF X j (rx X j++t)) 0 w):=by
 obtain⟨a1,n1,c1,hv,hn1,hc1,hc2,hI1,h01⟩:=h.sl j hj;rw[hn1]at hl2;have H:=Zy h;have HX:=Zy hX;have HI:=Zy hI;have HM:=Zy hM;have HO:=Zy hO;have HN:=Zy hn;have HA:=Zy h0;have HV:=Zy hv;have om:=Zy hn1;clear h hX hI hM hO hn h0 hv h01 hI1 hn1;have hal:=UF;have hB0:=(XG.new w vs 48).alloc (.cells (Xo XB) 48);have c0:=hB0.cell (i:=j) (by rw[H.out.lv];exact hj);rw[HV.out]at c0;have hB1:=XG.new (w.alloc (.cells (Xo vs) 48)) XB 48;rw[Zu]at hB1;have hacc:=Zo w (.cells (Xo vs) 48) (.cells (Xo XB) 48);have hsz:w.heap.size+2<=((w.alloc (.cells (Xo vs) 48)).alloc (.cells (Xo XB) 48)).heap.size:=QJ;have i0:(j:Int)<27:=QQ;go_enter Tryz.func178,Tryz.ntmps178
 go_upto_region 1 with fail
 change Code.wp _ _ _ _ ((w.alloc (.cells (Xo vs) 48)).alloc (.cells (Xo XB) 48));generalize(w.alloc (.cells (Xo vs) 48)).alloc (.cells (Xo XB) 48)=w1 at *;go_wp2_with (first|(go_at_call 189;refine(Ka _ _).mono ?_;rintro e w1 ⟨rfl,rfl⟩;rw[HO.out,HM.out,HI.out])|(refine UA rfl _ rfl w.heap.size rfl vs _ hB0 H.out.lv ?_))
 refine(Ah vs X _ (H.out.below hacc) HX.out).mono ?_;rintro e w2 ⟨us,rfl,RI,hown,hsep,hb2⟩;have IZ:=Zy RI;have HOW:=Zy hown;have HSE:=Zy hsep;clear RI hown hsep c0;have QJC:=hB1.below hb2 hB1.lt;have hB2:=XG.new w2 XB 48;have JP:=ZE hacc QQ hb2;have UX:=JP.alloc (by have:=hb2.size;omega) (.cells (Xo XB) 48);have hz2:w1.heap.size<=w2.heap.size:=hb2.size;have iM:Slv us:=fun i hi=>by
  exact QLq
 have L6:=QJC.alloc (.cells (Xo XB) 48);have nE:=Zy iM;clear iM;obtain⟨aj,nj,cj,hvj⟩:=(HOW.out j hj).form;have HVJ:=Zy hvj;clear hvj;have hT:Ints w2 a t:=ht.below JP;have hA2:=HA.out;have HL2:=Zy (show(rx X j).length+n<=17592186044416 by rw[om.out];omega);clear hA2;go_wp2_with (first|(at_builtin;refine QJn rfl _ _ rfl w1.heap.size (.slice aj nj cj) (rx X j) t a n c rfl rfl zq hT4 HN.out HA.out HL2.out QQ ?_;intro v5 w5 hown5 BN;obtain⟨a5,n5,c5,rfl⟩:=hown5.form;have qU:=hB4.grown BN (zq.XP hB4 QZ);have Qxe:=JR.grown BN (zq.XP JR QZ);have f6:=qU.free j;have c6:=qU.cell (i:=j) (by rw[IZ.out];exact hj))|(refine KT rfl _ _ rfl w2.heap.size rfl us rfl XB _ hB2 Yd IZ.out nE.out ?_;intro w4 hB4 hL4;have Ex:=hL4.size;rw[Zu]at Ex;have JR:=hL4.QWB QQ L6;have Ud:=hL4.Xw (ZB _) (ZR w2 (.cells (Xo XB) 48));have Uc:=hL4.Xw QQ UX;have zq:=(HOW.out j hj).kept Ud;have c4:=hB4.cell (i:=j) (by rw[IZ.out];exact hj);have f4:=hB4.free j;rw[HVJ.out]at zq c4;have hT4:=ht.below Uc;clear hL4 UX L6 hB2))
 have BD:=hown5.other (a:=⟨w2.heap.size,j,none⟩) (hown5.XP qU QZ) (.slice a5 n5 c5);obtain⟨g1,g2,g3,g4,g5⟩:=BD.sl.get;have G1:=Zy g1;have G5:=Zy g5;have hn5:n5<=200:=by rw[<-g1,ZN,HN.out,om.out];exact hl2
 have Bc:=qU.set j (.slice a5 n5 c5);have QVO:=Uc.grown BN QQ (fun k hk=>by have:=zq.row k hk;omega);have lZ:=QVO.setCell (p:=⟨w2.heap.size,j,none⟩) Qv (.slice a5 n5 c5);have hz7:w4.heap.size<=(w5.setCell ⟨w2.heap.size,j,none⟩ (.slice a5 n5 c5)).heap.size:=by rw[size_setCell];exact BN.size
 have hU7:(us.set j (.slice a5 n5 c5)).length=27:=by rw[YK,IZ.out]
 have HU7:=Zy hU7;have QJk:=Qxe.other (a:=⟨w2.heap.size,j,none⟩) QY (.slice a5 n5 c5);have HO7:=Zy (show∀i,i<27->i≠j->Own 3 w1.heap.size (w5.setCell ⟨w2.heap.size,j,none⟩ (.slice a5 n5 c5)) (vx us i) (rx X i)from fun i hi hij=>by
  have h1:=(HOW.out i hi).kept Ud;have hs:Sep (vx us i) (.slice aj nj cj):=by
   rw[<-HVJ.out];rcases Nat.lt_or_gt_of_ne hij with h|h
   ·exact HSE.out i j h hj
   ·exact(HSE.out j i h hi).symm
  have h2:=h1.grown BN hs;exact qU.put h2 QZ _ _)
 clear g1 g5 hU7 c4 f4;go_wp2_with (first|((go_at_call 31);refine(XY a5 n5 c5 (rx X j++t) _ g4 G1.out QQ G5.out).mono ?_;rintro e w8 ⟨v8,rfl,xx,XH⟩;obtain⟨a8,n8,c8,rfl⟩:=xx.form;have Uq:=Bc.below XH Bc.lt;have f8:=Uq.free 0;have e8:=Uq.cell (i:=0) (by rw[HU7.out];omega);have U7:=Uq.set 0 (.slice a8 n8 c8);have HU9:=Zy (show((us.set j (.slice a5 n5 c5)).set 0 (.slice a8 n8 c8)).length=27 by rw[YK,HU7.out]);have QJj:=(QJk.below XH QQ).other (a:=⟨w2.heap.size,0,none⟩) QY (.slice a8 n8 c8);have HS9:=Zy (Pn IZ.out nE.out j a5 n5 c5 a8 n8 c8))|(refine UA rfl _ rfl w2.heap.size rfl _ _ U7 HU9.out ?_)|(refine KT rfl _ _ rfl (w.heap.size+1) rfl ((us.set j (.slice a5 n5 c5)).set 0 (.slice a8 n8 c8)) rfl XB _ QJj Yd HU9.out HS9.out ?_;intro Hl aX zk))
 have vC:=XH.size;refine ZC (J7 Tryz.results178 rfl (K4 aX HU9.out)) rfl ⟨_,rfl,P8 IZ.out H.out.lx hj (fun i hi hij=>?_) ?_ ?_,zk.Xw QQ ((ZE lZ QQ XH).setCell Qv _)⟩
 ·have h1:=(HO7.out i hi hij).kept XH
  exact((Uq.put h1 QZ _ _).left zk QQ).mono QQ
 ·have h1:=BD.kept XH
  exact((Uq.put h1 QZ _ _).left zk QQ).mono QQ
 ·exact((Uq.put xx QZ _ _).left zk QQ).mono QQ
theorem fu(vs:List Value)(X:List (List Int))(name:Int)(a:Option Addr)(n c:Nat)(t:List Int)(w:World)(h:EN w vs X)(hX:∀i,i<27->(rx X i).length<=1048576)
  (ht:Ints w a t) (hn:t.length=n) (h0:a=none->n=0) (hl:n<=1048576):
  Calls Tryz.prog 178 #[.agg (Xo vs),.int .i64 name,.slice a n c] w (We (Jh X name t) (KE X name t) w):=by
 have hX':∀i,i<27->(rx X i).length<=17592186044416:=fun i hi=>by have:=hX i hi;omega
 cases hO:VQ name
 ·rw[(RX hO).1,(RX hO).2]
  exact Fu vs X name _ w hO
 ·obtain⟨j1,j2,j3⟩:=Fv hO
  cases hM:jf name
  ·rw[(RQ hO hM).1,(RQ hO hM).2,hn]
   by_cases h2:200<n
   ·rw[if_pos h2,if_pos h2]
    exact zZ vs X name _ false a n c w h j2 j1 hM hO (.inl h2) QQ
   ·rw[if_neg h2,if_neg h2]
    exact Fj vs X name _ a n c t w h hX' j2 j1 hM hO ht hn h0 QQ
  ·rw[(Iw hO hM).1,(Iw hO hM).2,hn]
   by_cases h2:200<(rx X (WI name)).length+n
   ·rw[if_pos h2,if_pos h2]
    exact zZ vs X name _ true a n c w h j2 j1 hM hO (by by_cases h3:200<n;exact .inl h3;exact .inr ⟨rfl,QQ,h2⟩) QQ
   ·rw[if_neg h2,if_neg h2]
    exact Cg vs X name _ a n c t w h hX' j2 j1 hM hO ht hn h0 QQ QQ
structure Sp where
 f:Int
 t:Int
 x:List Int
def sp(es:List Sp)(i:Nat):Sp:=es.getD i ⟨0,0,[]⟩
def qO(a:Option Addr)(c k:Nat):Option Addr:=if c=k then a else a.map (·.add (k*1))
theorem Vu{a:Option Addr}{c k:Nat}(h:qO a c k=none):a=none:=by
 unfold qO at h;split at h
 ·exact h
 ·cases a<;>simp_all
theorem Ints.Bt{w:World}{a:Option Addr}{xs:List Int}{c:Nat}(h:Ints w a xs)(lo hi:Nat)(hc:xs.length<=c)(hl:lo<=hi)(hh:hi<=xs.length):Ints w (qO a c lo) ((xs.take hi).drop lo):=by
 unfold qO;by_cases hk:c=lo
 ·refine .inl ?_
  rw[List.drop_eq_nil_iff,Zi];omega
 ·rw[if_neg hk]
  rcases a with _|ad
  ·rcases h with rfl|⟨b,o,ha,_⟩
   ·exact .inl QJ
   ·simp at ha
  ·simp only[Nat.mul_one,Option.map_some]
   exact(h.take hi).QXW lo
theorem Ints.mU{w:World}{a:Option Addr}{xs:List Int}{c:Nat}(h:Ints w a xs)(lo:Nat)(hc:xs.length<=c)(hl:lo<=xs.length):Ints w (qO a c lo) (xs.drop lo):=by
 have:=h.Bt lo xs.length hc hl (ZB _)
 rwa[List.take_length]at this
theorem zl(a:Option Addr)(n c lo hi:Nat)(h1:lo<=hi)(h2:hi<=c)(w:World):
  (Instr.slice 22 (.slice a n c) (some (.int .i64 (lo:Int))) (some (.int .i64 (hi:Int))) none).run Tryz.prog w=.ok (.slice (qO a c lo) (hi-lo) (c-lo)) w:=by
 obtain⟨i0,hi0,hz0,hz1,hz2⟩:=XR JH;have b1:(0:Int)<=(lo:Int)/\(lo:Int)<=(hi:Int):=QQ;have b2:(0:Int)<=(hi:Int)/\(hi:Int)<=(c:Int):=QQ;simp[Instr.slice,Instr.sliceBounds,Instr.sliceBound,asIntOf,Y1 Tryz.underlying22,sizeOf,typeInfo,hi0,hz1,b1,b2,go_sem,qO,h1,h2]
theorem uz(a:Option Addr)(n c lo:Nat)(h1:lo<=n)(w:World):
  (Instr.slice 22 (.slice a n c) (some (.int .i64 (lo:Int))) none none).run Tryz.prog w=.ok (.slice (qO a c lo) (n-lo) (c-lo)) w:=by
 obtain⟨i0,hi0,hz0,hz1,hz2⟩:=XR JH;have b1:(0:Int)<=(lo:Int)/\(lo:Int)<=(n:Int):=QQ;simp[Instr.slice,Instr.sliceBounds,Instr.sliceBound,asIntOf,Y1 Tryz.underlying22,sizeOf,typeInfo,hi0,hz1,b1,go_sem,qO,h1]
theorem yZ(a:Option Addr)(n c hi:Nat)(h2:hi<=c)(w:World):
  (Instr.slice 22 (.slice a n c) none (some (.int .i64 (hi:Int))) none).run Tryz.prog w=.ok (.slice a hi c) w:=by
 obtain⟨i0,hi0,hz0,hz1,hz2⟩:=XR JH;have b2:(0:Int)<=(hi:Int)/\(hi:Int)<=(c:Int):=QQ;simp[Instr.slice,Instr.sliceBounds,Instr.sliceBound,asIntOf,Y1 Tryz.underlying22,sizeOf,typeInfo,hi0,hz1,b2,go_sem,h2]
inductive bu {α β:Type} (R:α->β->Prop):List α->List β->Prop
 | nil:bu R [] []
 | cons {a:α} {b:β} {l:List α} {m:List β} (h:R a b) (t:bu R l m):bu R (a::l) (b::m)
structure SV where
 f:Int
 t:Int
 a:Option Addr
 n:Nat
 c:Nat
def SV.cells(s:SV):List Value:=[.int .i64 s.f,.int .i64 s.t,.slice s.a s.n s.c]
def SV.is(w:World)(base:Nat)(s:SV)(p:Sp):Prop:=s.f=p.f/\s.t=p.t/\Own 3 base w (.slice s.a s.n s.c) p.x
def Us(base:Nat)(w:World)(v:Value)(us:List SV)(es:List Sp):Prop:=
 w.ownsRow base 282 3 v es.length (us.flatMap SV.cells)/\bu (SV.is w base) us es
theorem SV.is.imp{w w':World}{base base':Nat}{s:SV}{p:Sp}(h:SV.is w base s p)(hk:Own 3 base w (.slice s.a s.n s.c) p.x->Own 3 base' w' (.slice s.a s.n s.c) p.x):SV.is w' base' s p:=⟨h.1,h.2.1,hk h.2.2⟩
theorem V6{α β:Type}{R S:α->β->Prop}{l:List α}{m:List β}(h:bu R l m)(hi:∀a b,R a b->S a b):bu S l m:=by
 induction h with
 | nil=>exact .nil
 | cons h _ ih=>exact .cons (hi _ _ h) ih
theorem Us.nil(base:Nat)(w:World):Us base w (.slice none 0 0) [] []:=⟨Yu _ _ _ _,.nil⟩
theorem Us.mono{base base':Nat}{w:World}{v:Value}{us:List SV}{es:List Sp}(h:Us base w v us es)(hb:base'<=base):Us base' w v us es:=by
 refine⟨⟨h.1.1,?_⟩,V6 h.2 fun _ _ hh=>hh.imp fun k=>k.mono hb⟩;rcases h.1.2 with hn|⟨g,cap,cur,rfl,hb',rest⟩
 ·exact .inl hn
 ·exact .inr ⟨g,cap,cur,rfl,QQ,rest⟩
theorem Us.kept{base:Nat}{w w':World}{v:Value}{us:List SV}{es:List Sp}(h:Us base w v us es)(hb:Below w.heap.size w w'):Us base w' v us es:=by
 refine⟨⟨h.1.1,?_⟩,V6 h.2 fun _ _ hh=>hh.imp fun k=>k.kept hb⟩;rcases h.1.2 with hn|⟨g,cap,cur,rfl,hb',hgg,rest⟩
 ·exact .inl hn
 ·exact .inr ⟨g,cap,cur,rfl,hb',ZX,rest⟩
theorem Us.form{base:Nat}{w:World}{v:Value}{us:List SV}{es:List Sp}(h:Us base w v us es):∃a c,v=.slice a es.length c/\es.length<=c/\c<=9223372036854775807/\(a=none->es.length=0):=by
 rcases h.1.2 with⟨rfl,h0⟩|⟨g,cap,cur,rfl,hb',hgg,hn,hm,rest⟩
 ·exact⟨none,0,by rw[h0],QQ,QQ,fun _=>h0⟩
 ·exact⟨_,cap,rfl,hn,QC8,QJ⟩
end Go.Proofs.YtmdnepkekekncaaGreat
