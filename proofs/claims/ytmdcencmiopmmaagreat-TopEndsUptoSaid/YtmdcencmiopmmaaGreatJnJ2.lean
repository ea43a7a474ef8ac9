/- joined, no condition of its own. -/
import Derived.Test.YtmdcencmiopmmaaGreatJnT
import Derived.Test.YtmdcencmiopmmaaGreatJnJ1
set_option linter.unusedVariables false
set_option linter.unusedSimpArgs false
set_option maxRecDepth 100000
set_option maxHeartbeats 12000000
namespace Go.Proofs.YtmdcencmiopmmaaGreat
open Go.RowKit
def vx(vs:List Value)(i:Nat):Value:=vs.getD i undef
def rx(X:List (List Int))(i:Nat):List Int:=X.getD i []
def XP(vs:List Value):Array Value:=vs.toArray
theorem Yl(vs:List Value):(XP vs).size=vs.length:=by simp[XP]
theorem Yk{vs:List Value}{i:Nat}(h:i<vs.length)(v:Value):vx (vs.set i v) i=v:=by simp[vx,h]
theorem ZR{vs:List Value}{i j:Nat}(h:i≠j)(v:Value):vx (vs.set i v) j=vx vs j:=by
 unfold vx;simp[List.getElem?_set,h]
theorem Dv{vs:List Value}{v:Value}(h:v∈vs):∃i,i<vs.length/\vx vs i=v:=by
 obtain⟨i,hi,rfl⟩:=Xw.1 h;exact⟨i,hi,by simp[vx,hi]⟩
theorem yw{X:List (List Int)}{i:Nat}(h:i<X.length)(v:List Int):rx (X.set i v) i=v:=by simp[rx,h]
theorem yo{X:List (List Int)}{i j:Nat}(h:i≠j)(v:List Int):rx (X.set i v) j=rx X j:=by
 unfold rx;simp[List.getElem?_set,h]
def Sl(w:World)(v:Value)(xs:List Int):Prop:=∃a n c,v=.slice a n c/\xs.length=n/\n<=c/\c<=9223372036854775807/\Ints w a xs/\(a=none->n=0)
theorem Sl.keep{w w':World}{v:Value}{xs:List Int}(h:Sl w v xs)(hc:∀p v,w.cell? p=some v->w'.cell? p=some v):Sl w' v xs:=by
 exact QF6
theorem Sl.below{w w':World}{v:Value}{xs:List Int}(h:Sl w v xs)(hb:Below w.heap.size w w'):Sl w' v xs:=h.keep (ZL hb)
theorem Sl.drewN{w:World}{v:Value}{xs:List Int}(h:Sl w v xs)(n:Nat):Sl (w.drewN n) v xs:=h.keep (fun _ _ h=>h)
theorem Sl.drew{w:World}{v:Value}{xs:List Int}(h:Sl w v xs):Sl w.drew v xs:=h.keep (fun _ _ h=>h)
theorem Sl.nil(w:World):Sl w (.slice none 0 0) []:=⟨none,0,0,rfl,rfl,ZB _,QQ,Ints.nil _ _,fun _=>rfl⟩
theorem Own.sl{e:TypeId}{base:Nat}{w:World}{v:Value}{xs:List Int}(h:Own e base w v xs):Sl w v xs:=by
 obtain⟨a,c,rfl,h1,h2⟩:=h.ints;refine⟨a,_,c,rfl,rfl,h1,?_,h2,fun ha=>?_⟩
 ·rcases h.2 with⟨hv,_⟩|⟨g,cap,cur,hv,hb,hg,hn,hm,hs,ht⟩
  ·simp at hv;omega
  ·simp only[Xx]at hv
   obtain⟨_,_,rfl⟩:=hv;unfold maxLen at hm;omega
 ·rcases h.2 with⟨hv,h0⟩|⟨g,cap,cur,hv,_⟩
  ·exact h0
  ·simp[ha]at hv
theorem Sl.get{w:World}{a:Option Addr}{n c:Nat}{xs:List Int}(h:Sl w (.slice a n c) xs):xs.length=n/\n<=c/\c<=9223372036854775807/\Ints w a xs/\(a=none->n=0):=by
 exact QFb
theorem Ju:Tryz.prog.underlying 36=some (.array 27 26):=QX
theorem Yo:(Tryz.prog.info? 36).map (·.size)=some 27:=QX
def Xu:List Value:=List.replicate 27 (.slice none 0 0)
theorem qd{α:Type}(n:Nat)(v d:α){i:Nat}(h:i<n):(List.replicate n v).getD i d=v:=by simp[List.getElem?_replicate,h]
theorem GY{i:Nat}(h:i<27):vx Xu i=.slice none 0 0:=qd 27 _ _ h
theorem YS:Xu.length=27:=rfl
theorem UC(w:World):(Instr.alloc 36 true (.tuple #[])).run Tryz.prog w=.ok (.pointer (some ⟨w.heap.size,0,none⟩)) (w.alloc (.cells (XP Xu) 36)):=QX
theorem Ap(w:World):(Instr.build 36 #[]).run Tryz.prog w=.ok (.agg (XP Xu)) w:=QX
def pV(vs:List Value):Prop:=∀i,i<vs.length->∃a n c,vx vs i=.slice a n c
theorem CF:pV Xu:=by
 intro i hi;exact⟨none,0,0,GY hi⟩
structure yL (w:World) (vs:List Value) (X:List (List Int)):Prop where
 lv:vs.length=27
 lx:X.length=27
 sl:∀i,i<27->Sl w (vx vs i) (rx X i)
theorem yL.keep{w w':World}{vs:List Value}{X:List (List Int)}(h:yL w vs X)(hc:∀p v,w.cell? p=some v->w'.cell? p=some v):yL w' vs X:=
 ⟨h.lv,h.lx,fun i hi=>(h.sl i hi).keep hc⟩
theorem yL.below{w w':World}{vs:List Value}{X:List (List Int)}(h:yL w vs X)(hb:Below w.heap.size w w'):yL w' vs X:=h.keep (ZL hb)
theorem yL.drewN{w:World}{vs:List Value}{X:List (List Int)}(h:yL w vs X)(n:Nat):yL (w.drewN n) vs X:=h.keep (fun _ _ h=>h)
theorem yL.slv{w:World}{vs:List Value}{X:List (List Int)}(h:yL w vs X):pV vs:=by
 intro i hi;obtain⟨a,n,c,h1,_⟩:=h.sl i (by rw[<-h.lv];exact hi);exact⟨a,n,c,h1⟩
def Vn:List (List Int):=List.replicate 27 []
def Xj(w:World)(B:Nat)(vs:List Value)(e:TypeId):Prop:=Za w B (XP vs) e
theorem Xj.cell{w:World}{B:Nat}{vs:List Value}{e:TypeId}(h:Xj w B vs e){i:Nat}(hi:i<vs.length):w.cell? ⟨B,i,none⟩=some (vx vs i):=by
 rw[Za.cell h i];simp[XP,vx,hi]
theorem Xj.set{w:World}{B:Nat}{vs:List Value}{e:TypeId}(h:Xj w B vs e)(i:Nat)(v:Value):Xj (w.setCell ⟨B,i,none⟩ v) B (vs.set i v) e:=by
 have:=Za.set h i v;unfold Xj
 rwa[show(XP vs).setIfInBounds i v=XP (vs.set i v)from by simp[XP]]at this
theorem Xj.free{w:World}{B:Nat}{vs:List Value}{e:TypeId}(h:Xj w B vs e)(i:Nat):w.frozen? ⟨B,i,none⟩=false:=Za.free h i
theorem Xj.lt{w:World}{B:Nat}{vs:List Value}{e:TypeId}(h:Xj w B vs e):B<w.heap.size:=Za.lt h
theorem Xj.alloc{w:World}{B:Nat}{vs:List Value}{e:TypeId}(h:Xj w B vs e)(o:Obj):Xj (w.alloc o) B vs e:=Za.alloc h o
theorem Xj.new(w:World)(vs:List Value)(e:TypeId):Xj (w.alloc (.cells (XP vs) e)) w.heap.size vs e:=Za.new w _ e
theorem Xj.other{w:World}{B:Nat}{vs:List Value}{e:TypeId}(h:Xj w B vs e){a:Addr}(ha:B≠a.block)(u:Value):Xj (w.setCell a u) B vs e:=Za.other h ha u
theorem Xj.below{w w':World}{B N:Nat}{vs:List Value}{e:TypeId}(h:Xj w B vs e)(hb:Below N w w')(hN:B<N):Xj w' B vs e:=Za.below h hb hN
theorem Xj.drewN{w:World}{B:Nat}{vs:List Value}{e:TypeId}(h:Xj w B vs e)(n:Nat):Xj (w.drewN n) B vs e:=h
theorem Xj.grown{w w':World}{B:Nat}{vs:List Value}{e:TypeId}{row:Option Nat}(h:Xj w B vs e)(hg:w.grownBy w' row)(hr:some B≠row):Xj w' B vs e:=Za.grown h hg hr
theorem Xj.ne{w:World}{B:Nat}{us:List Value}{e e':TypeId}{base:Nat}{v:Value}{xs:List Int}(hB:Xj w B us e')(h:Own e base w v xs)(he:e≠e'):some B≠v.ownBlock:=h.Xa hB he
theorem Xj.put{w:World}{B:Nat}{us:List Value}{e e':TypeId}{base:Nat}{v:Value}{xs:List Int}(hB:Xj w B us e')(h:Own e base w v xs)(he:e≠e')(i:Nat)(u:Value):Own e base (w.setCell ⟨B,i,none⟩ u) v xs:=h.other (a:=⟨B,i,none⟩) (hB.ne h he) u
theorem Uk{ops:Array Oper}{rest:List Oper}{op:Oper}{a:Act}{w:World}{Q:Exit->Act->World->Prop}(hgd:op.guard=none)(x:Operand)(ho:op.op=.load 36 x)
  (B:Nat) (hx:a.eval x=.pointer (some ⟨B,0,none⟩)) (vs:List Value) (e:TypeId) (hB:Xj w B vs e) (hl:vs.length=27)
  (h:wpList Tryz.prog ops Q rest (a.put op.dst (.agg (XP vs))) w):wpList Tryz.prog ops Q (op::rest) a w:=
 wpList_load_row hgd 36 x ho B hx e (XP vs) (0,0) _ hB Ju rfl (by rw[Yl,hl];exact Yo) h
theorem KS{ops:Array Oper}{rest:List Oper}{op:Oper}{a:Act}{w:World}{Q:Exit->Act->World->Prop}(hgd:op.guard=none)(x y:Operand)(ho:op.op=.store 36 x y)
  (B:Nat) (hx:a.eval x=.pointer (some ⟨B,0,none⟩)) (us:List Value) (hy:a.eval y=.agg (XP us)) (vs:List Value) (e:TypeId) (hB:Xj w B vs e) (hl:vs.length=27) (hl2:us.length=27) (hs:pV us)
  (h:∀w',Xj w' B us e->Left B w w'->wpList Tryz.prog ops Q rest (a.put op.dst undef) w'):wpList Tryz.prog ops Q (op::rest) a w:=by
 refine wpList_store_mid hgd 36 x y ho B 0 (XP us) hx hy ?_ (by rw[Yl,hl2];exact Yo) ?_ (h _ ?_ ⟨fun hne hb=>hb.Vl hne _ 0,fun hN hb=>below_setCells hN _ 0 hb,size_setCells _ _ _⟩)
 ·intro j hj
  rw[Yl]at hj;rw[XN];exact⟨by rw[hB.cell QQ];rfl,hB.free j⟩
 ·refine Y3 ?_
  intro v hv;obtain⟨i,hi,rfl⟩:=Dv hv;obtain⟨a,n,c,hv⟩:=hs i hi;rw[hv];rfl
 ·have:=Za.setCells (XP us).toList 0 hB
  rw[QQp (by simp[Yl,hl,hl2])]at this;exact this
theorem Left.QKl{B:Nat}{w w':World}(h:Left B w w'){B':Nat}{vs:List Value}{e:TypeId}(hne:B'≠B)(hb:Xj w B' vs e):Xj w' B' vs e:=h.blk hne hb
theorem K8{w:World}{B:Nat}{vs:List Value}{e:TypeId}(hB:Xj w B vs e)(hl:vs.length=27):(loadVar 36 ⟨B,0,none⟩).run Tryz.prog w=.ok (.agg (XP vs)) w:=
 run_loadVar_row w B e 36 (XP vs) (0,0) _ hB Ju rfl (by rw[Yl,hl];exact Yo)
theorem Ca{fn:Func}{s:Tmp}{T:TypeId}(h:fn.results=#[.cell s T]){tmps:Array Value}{P:Program}{w:World}{ad:Addr}{v:Value}(hp:tmps.getD s undef=.pointer (some ad))(hl:(loadVar T ad).run P w=.ok v w):
  (results fn tmps).run P w=.ok v w:=by
 exact QF3
theorem Own.left{e:TypeId}{base B:Nat}{w w':World}{v:Value}{xs:List Int}(h:Own e base w v xs)(hL:Left B w w')(hb:B<base):Own e base w' v xs:=by
 refine⟨h.1,?_⟩;rcases h.2 with hn|⟨g,cap,cur,rfl,hb',hgg,rest⟩
 ·exact .inl hn
 ·exact .inr ⟨g,cap,cur,rfl,hb',hL.blk QQ hgg,rest⟩
def jJ(name:Int):Int:=if name=0 then 0 else if 97<=name/\name<=122 then name-97+1 else if 65<=name/\name<=90 then name-65+1 else 0
def jY(name:Int):Bool:=if name=0 then false else if 97<=name/\name<=122 then false else if 65<=name/\name<=90 then true else false
def U4(name:Int):Bool:=if name=0 then true else if 97<=name/\name<=122 then true else if 65<=name/\name<=90 then true else false
theorem KT(name:Int)(w:World):
  Calls Tryz.prog 304 #[.int .i64 name] w fun e w'=>e=.returned (.tuple #[.int .i64 (jJ name),.bool (jY name),.bool (U4 name)])/\w=w':=by
 unfold jJ jY U4;by_cases h0:name=0
 ·subst h0
  exact QE0
 have h0':(name==0)=false:=Q7;rw[if_neg h0,if_neg h0,if_neg h0];clear h0;by_cases h:97<=name/\name<=122
 ·rw[if_pos h,if_pos h,if_pos h]
  obtain⟨h1,h2⟩:=h;exact QE0
 ·rw[if_neg h,if_neg h,if_neg h]
  by_cases h':65<=name/\name<=90
  ·rw[if_pos h',if_pos h']
   obtain⟨h1,h2⟩:=h';clear h;exact QE0
  ·rw[if_neg h',if_neg h']
   have hd:name<65\/(90<name/\name<97)\/122<name:=QQ;clear h h';rcases hd with h|⟨h,h'⟩|h
   all_goals
    go_enter Tryz.func304,Tryz.ntmps304
    go_wp2
    all_goals
     go_ret3
     exact⟨rfl,rfl⟩
def rJ(X:List (List Int))(w:World)(e:Ending)(w':World):Prop:=
 ∃vs,e=.returned (.agg (XP vs))/\vs.length=27/\(∀i,i<27->Own 3 w.heap.size w' (vx vs i) (rx X i))/\(∀i j,i<j->j<27->Sep (vx vs i) (vx vs j))/\Below w.heap.size w w'
theorem vC(vs:List Value)(X:List (List Int))(w:World)(h:yL w vs X)(hX:∀i,i<27->(rx X i).length<=17592186044416):
  Calls Tryz.prog 305 #[.agg (XP vs)] w (rJ X w):=by
 have hal:=UC;have H:=Zy h;have HX:=Zy hX;clear h hX;have hB0:=(Xj.new w vs 36).alloc (.cells (XP Xu) 36);have hB1:=Xj.new (w.alloc (.cells (XP vs) 36)) Xu 36;rw[Zv]at hB1;have hacc:=Zn w (.cells (XP vs) 36) (.cells (XP Xu) 36);have hsz:w.heap.size+2<=((w.alloc (.cells (XP vs) 36)).alloc (.cells (XP Xu) 36)).heap.size:=QJ;go_enter Tryz.func305,Tryz.ntmps305
 go_upto_region 1 with fail
 change Code.wp _ _ _ _ ((w.alloc (.cells (XP vs) 36)).alloc (.cells (XP Xu) 36));generalize(w.alloc (.cells (XP vs) 36)).alloc (.cells (XP Xu) 36)=w1 at *;go_wp2
 go_loopw [4] (fun i wr=>∃k:Nat,i=.int .i64 (k:Int)/\k<=27/\∃us,us.length=27/\Xj wr w.heap.size us 36/\Xj wr (w.heap.size+1) Xu 36/\
   (∀i,i<k->Own 3 (w.heap.size+2) wr (vx us i) (rx X i))/\(∀i j,i<j->j<k->Sep (vx us i) (vx us j))/\(∀i,k<=i->i<27->vx us i=vx vs i)/\Below w.heap.size w wr/\w.heap.size+2<=wr.heap.size) (fun i _=>27-(intOf i).toNat)
 case atStart=>exact⟨0,rfl,QQ,vs,H.out.lv,hB0,hB1,fun i hi=>QQ,fun i j _ hj=>QQ,fun i _ _=>rfl,hacc,hsz⟩
 case round=>
  obtain⟨k,rfl,hk,us,hl,hb0,hb1,hown,hsep,hold,hbel,hs⟩:=hrel;have HL:=Zy hl;have HO:=Zy hown;have HS:=Zy hsep;have HD:=Zy hold;clear hl hown hsep hold;by_cases hlt:k<27
  ·obtain⟨a,n,c,hv,hn,hc1,hc2,hI,h0⟩:=H.out.sl k hlt
   have c0:=hb0.cell (i:=k) QE;have f0:=hb0.free k;rw[HD.out k (ZB _) hlt,hv]at c0;have hI':=hI.below hbel;have HN:=Zy hn;have H0:=Zy h0;have HV:=Zy hv;have i0:(k:Int)<27:=QQ;have hn2:n<=17592186044416:=by have:=HX.out k hlt;rw[HN.out]at this;exact this
   clear hn h0 hv hI hc1 hc2;go_wp2_with (go_at_call 43;refine(Zw a n c (rx X k) _ hI' HN.out hn2 H0.out).mono ?_;rintro e w2 ⟨v2,rfl,hown2,JR⟩;obtain⟨a2,n2,c2,rfl⟩:=hown2.form;have QZP:=hb0.below JR hb0.lt;have hc0':=QZP.cell (i:=k) QE;have Qje:=QZP.free k;have hb1':=hb1.below JR hb1.lt)
   go_roundw
   case rel=>
    have hl':us.length=27:=HL.out;have hbs:=JR.size;refine⟨k+1,Qk,QQ,us.set k (.slice a2 n2 c2),by simpa using hl',QZP.set k _,hb1'.other QJ _,fun i hi=>?_,fun i j hij hj=>?_,fun i h1 h2=>?_,(ZE hbel QQ JR).setCell (ZB _) _,by rw[size_setCell];omega⟩
    ·by_cases hik:i=k
     ·subst hik
      rw[Yk QQ];exact(hown2.mono QQ).setCell QJ _
     ·rw[ZR (fun h=>hik h.symm)]
      exact((HO.out i QQ).kept JR).setCell QJ _
    ·by_cases hjk:j=k
     ·subst hjk
      rw[Yk QQ,ZR QQ];exact(HO.out i QQ).sep hown2
     ·rw[ZR (fun h=>hjk h.symm),ZR QQ]
      exact HS.out i j hij QQ
    ·rw[ZR QQ]
     exact HD.out i QQ h2
   case measure=>simp[intOf];omega
  ·obtain rfl:k=27:=by omega
   have hsl:pV us:=by
    intro i hi;obtain⟨a,n,c,h⟩:=(HO.out i (by rw[HL.out]at hi;exact hi)).form;exact⟨a,n,c,h⟩
   have HSL:=Zy hsl;clear hsl hlt;go_wp2_with (first|(refine Uk rfl _ rfl w.heap.size rfl us _ hb0 HL.out ?_)|(refine KS rfl _ _ rfl (w.heap.size+1) rfl us rfl Xu _ hb1 YS HL.out HSL.out ?_;intro w2 hB2 hL2))
   refine ZC (Ca Tryz.results305 rfl (K8 hB2 HL.out)) rfl ?_;exact⟨us,rfl,HL.out,fun i hi=>((HO.out i hi).left hL2 QQ).mono QQ,HS.out,hL2.YX QQ hbel⟩
def ku(X:List (List Int))(j:Nat)(y:List Int):List (List Int):=(X.set j y).set 0 y
theorem OQ{us:List Value}(hl:us.length=27)(hs:pV us)(j:Nat)(a5:Option Addr)(n5 c5:Nat)(a8:Option Addr)(n8 c8:Nat):pV ((us.set j (.slice a5 n5 c5)).set 0 (.slice a8 n8 c8)):=by
 intro i hi;rw[X4,X4]at hi;by_cases h0:i=0
 ·subst h0
  exact⟨a8,n8,c8,Yk (by rw[X4];exact hi) _⟩
 ·rw[ZR (fun e=>h0 e.symm)]
  by_cases hij:i=j
  ·subst hij
   exact⟨a5,n5,c5,Yk hi _⟩
  ·rw[ZR (fun e=>hij e.symm)]
   exact hs i hi
def yG(y:List Int)(E:Int)(w:World)(e:Ending)(w':World):Prop:=∃v,e=.returned (.tuple #[v,.int .i64 E])/\Sl w' v y/\Below w.heap.size w w'
def PT(y:List Int):Int:=if y=[]then 6 else 0
theorem Gs(vs:List Value)(name:Int)(w:World)(hO:U4 name=false):
  Calls Tryz.prog 291 #[.agg (XP vs),.int .i64 name] w (yG [] 9 w):=by
 have HO:=Zy hO;clear hO;go_enter Tryz.func291,Tryz.ntmps291
 go_wp2_with (first|(go_at_call 304;refine(KT _ _).mono ?_;rintro e w1 ⟨rfl,rfl⟩;rw[HO.out]))
 go_ret2
 exact⟨_,rfl,Sl.nil _,ZT _ _⟩
theorem MC(vs:List Value)(X:List (List Int))(name:Int)(j:Nat)(w:World)(h:yL w vs X)(hX:(rx X j).length<=17592186044416)(hI:jJ name=(j:Int))(hj:j<27)(hO:U4 name=true):
  Calls Tryz.prog 291 #[.agg (XP vs),.int .i64 name] w (yG (rx X j) (PT (rx X j)) w):=by
 obtain⟨a1,n1,c1,hv,hn1,hc1,hc2,hI1,h01⟩:=h.sl j hj;rw[hn1]at hX;have HI:=Zy hI;have HO:=Zy hO;have HV:=Zy hv;have HN1:=Zy hn1;have H01:=Zy h01;have HLV:=Zy h.lv;clear h hI hO hv h01 hn1;have hB0:=Xj.new w vs 36;have c0:=hB0.cell (i:=j) (by rw[HLV.out];exact hj);rw[HV.out]at c0;have hacc:=ZT w (.cells (XP vs) 36);have i0:(j:Int)<27:=QQ;have hI2:=hI1.below hacc;have hsz:(w.alloc (.cells (XP vs) 36)).heap.size=w.heap.size+1:=QJ;have HSZ:=Zy hsz;clear hsz;by_cases hz:n1=0
 ·have hnil:rx X j=[]:=Ze (by rw[HN1.out];exact hz)
  subst hz;have hE:PT (rx X j)=6:=by rw[hnil];rfl
  have Qqm:=Zy hnil;have HE:=Zy hE;clear hnil hE;go_enter Tryz.func291,Tryz.ntmps291
  go_wp2_with (first|(go_at_call 304;refine(KT _ _).mono ?_;rintro e w1 ⟨rfl,rfl⟩;rw[HO.out,HI.out]))
  go_ret2
  rw[HE.out,Qqm.out];exact⟨_,rfl,Sl.nil _,hacc⟩
 ·have hz':((n1:Int)==0)=false:=by simp;omega
  have hnil:rx X j≠[]:=fun h=>hz (by rw[<-HN1.out,h];rfl)
  have hE:PT (rx X j)=0:=if_neg hnil;have HE:=Zy hE;clear hnil hz hE;go_enter Tryz.func291,Tryz.ntmps291
  go_wp2_with (first|(go_at_call 304;refine(KT _ _).mono ?_;rintro e w1 ⟨rfl,rfl⟩;rw[HO.out,HI.out])|((go_at_call 43);refine(Zw a1 n1 c1 (rx X j) _ hI2 HN1.out hX H01.out).mono ?_;rintro e w5 ⟨v5,rfl,hown5,hb5⟩))
  go_ret2
  rw[HE.out];exact⟨_,rfl,hown5.sl,ZE hacc (by rw[HSZ.out];omega) hb5⟩
def QY1(name:Int):Int:=if U4 name=true then jJ name else-1
theorem P6(name:Int):(U4 name=false/\jY name=false/\jJ name=0)\/(U4 name=true/\0<=jJ name/\jJ name<27):=by
 unfold U4 jY jJ;by_cases h0:name=0
 ·simp[h0]
 ·by_cases h1:97<=name/\name<=122
  ·rw[if_neg h0,if_neg h0,if_neg h0,if_pos h1,if_pos h1,if_pos h1];right;exact⟨by trivial,QQ,QQ⟩
  ·by_cases h2:65<=name/\name<=90
   ·simp only[if_neg h0,if_neg h1,if_pos h2];right;exact⟨by trivial,QQ,QQ⟩
   ·simp only[if_neg h0,if_neg h1,if_neg h2];left;exact⟨by trivial,by trivial,by trivial⟩
def WU(name:Int):Nat:=(jJ name).toNat
def Ku(X:List (List Int))(name:Int)(t:List Int):Int:=
 if U4 name=false then 9 else if jY name=true then(if 200<(rx X (WU name)).length+t.length then 2 else 0)else if 200<t.length then 2 else 0
def Jh(X:List (List Int))(name:Int)(t:List Int):List (List Int):=
 if U4 name=false then Vn else if jY name=true then(if 200<(rx X (WU name)).length+t.length then Vn else ku X (WU name) (rx X (WU name)++t))else if 200<t.length then Vn else ku X (WU name) t
def UK(X:List (List Int))(name:Int):List Int:=if U4 name=false then[]else rx X (WU name)
def zN(X:List (List Int))(name:Int):Int:=if U4 name=false then 9 else PT (rx X (WU name))
theorem EU{name:Int}(h:U4 name=true):WU name<27/\jJ name=(WU name:Int)/\QY1 name=(WU name:Int):=by
 rcases P6 name with h1|⟨_,h2,h3⟩
 ·rw[h]at h1;simp at h1
 ·unfold WU QY1
  rw[if_pos h];omega
theorem Oz{X:List (List Int)}{name:Int}{t:List Int}(hO:U4 name=false):Jh X name t=Vn/\Ku X name t=9:=by simp[Jh,Ku,hO]
theorem OW{X:List (List Int)}{name:Int}{t:List Int}(hO:U4 name=true)(hM:jY name=false):Jh X name t=(if 200<t.length then Vn else ku X (WU name) t)/\Ku X name t=(if 200<t.length then 2 else 0):=by simp[Jh,Ku,hO,hM]
theorem G6{X:List (List Int)}{name:Int}{t:List Int}(hO:U4 name=true)(hM:jY name=true):Jh X name t=(if 200<(rx X (WU name)).length+t.length then Vn else ku X (WU name) (rx X (WU name)++t))/\Ku X name t=(if 200<(rx X (WU name)).length+t.length then 2 else 0):=by simp[Jh,Ku,hO,hM]
theorem lq(vs:List Value)(X:List (List Int))(name:Int)(w:World)(h:yL w vs X)(hX:∀i,i<27->(rx X i).length<=1048576):
  Calls Tryz.prog 291 #[.agg (XP vs),.int .i64 name] w (yG (UK X name) (zN X name) w):=by
 cases hO:U4 name
 ·rw[UK,zN,if_pos hO,if_pos hO]
  exact Gs vs name w hO
 ·obtain⟨j1,j2,j3⟩:=EU hO
  rw[UK,zN,if_neg (by simp[hO]),if_neg (by simp[hO])];exact MC vs X name _ w h (by have:=hX _ j1;omega) j2 j1 hO
structure NP (base:Nat) (w:World) (vs:List Value) (X:List (List Int)):Prop where
 lv:vs.length=27
 lx:X.length=27
 ow:∀i,i<27->Own 3 base w (vx vs i) (rx X i)
theorem OV(base:Nat)(w:World):NP base w Xu Vn:=by
 refine⟨rfl,rfl,fun i hi=>?_⟩;have h1:vx Xu i=.slice none 0 0:=GY hi;have h2:rx Vn i=[]:=qd 27 _ _ hi;rw[h1,h2];exact Own.nil _ _ _
theorem NP.MB{base:Nat}{w:World}{vs:List Value}{X:List (List Int)}(h:NP base w vs X):yL w vs X:=⟨h.lv,h.lx,fun i hi=>(h.ow i hi).sl⟩
theorem NP.slv{base:Nat}{w:World}{vs:List Value}{X:List (List Int)}(h:NP base w vs X):pV vs:=h.MB.slv
def WA(Y:List (List Int))(E:Int)(w:World)(e:Ending)(w':World):Prop:=∃vs,e=.returned (.tuple #[.agg (XP vs),.int .i64 E])/\NP w.heap.size w' vs Y/\Below w.heap.size w w'
theorem OU{w:World}{N:Nat}{us:List Value}{X:List (List Int)}{j:Nat}{y:List Int}{v v2:Value}(hl:us.length=27)(hx:X.length=27)(hj:j<27)(h:∀i,i<27->i≠j->Own 3 N w (vx us i) (rx X i))(h1:Own 3 N w v y)(h2:Own 3 N w v2 y):
  NP N w ((us.set j v).set 0 v2) (ku X j y):=by
 refine⟨by simpa using hl,by simpa[ku]using hx,fun i hi=>?_⟩;unfold ku;by_cases h0:i=0
 ·subst h0
  rw[Yk QY,yw QY];exact h2
 ·rw[ZR (fun e=>h0 e.symm),yo (fun e=>h0 e.symm)]
  by_cases hij:i=j
  ·subst hij
   rw[Yk QQ,yw QQ];exact h1
  ·rw[ZR (fun e=>hij e.symm),yo (fun e=>hij e.symm)]
   exact h i hi hij
theorem EK(vs:List Value)(X:List (List Int))(name:Int)(tv:Value)(w:World)(hO:U4 name=false):
  Calls Tryz.prog 292 #[.agg (XP vs),.int .i64 name,tv] w (WA Vn 9 w):=by
 have HO:=Zy hO;clear hO;have hal:=UC;have hbl:=Ap;have hB1:=Xj.new (w.alloc (.cells (XP vs) 36)) Xu 36;rw[Zv]at hB1;have hacc:=Zn w (.cells (XP vs) 36) (.cells (XP Xu) 36);go_enter Tryz.func292,Tryz.ntmps292
 go_wp2_with (first|(go_at_call 304;refine(KT _ _).mono ?_;rintro e w1 ⟨rfl,rfl⟩;rw[HO.out])|(refine KS rfl _ _ rfl (w.heap.size+1) rfl Xu rfl Xu _ hB1 YS YS CF ?_;intro w2 hB2 hL2))
 exact QF4
theorem qH(vs:List Value)(X:List (List Int))(name:Int)(j:Nat)(mo:Bool)(a:Option Addr)(n c:Nat)(w:World)(h:yL w vs X)(hI:jJ name=(j:Int))(hj:j<27)(hM:jY name=mo)(hO:U4 name=true)
  (hl:200<n\/(mo=true/\n<=200/\200<(rx X j).length+n)) (hn:n<=9223372036854775807):
  Calls Tryz.prog 292 #[.agg (XP vs),.int .i64 name,.slice a n c] w (WA Vn 2 w):=by
 obtain⟨a1,n1,c1,hv,hn1,hc1,hc2,hI1,h0⟩:=h.sl j hj;rw[hn1]at hl;have HI:=Zy hI;have HM:=Zy hM;have HO:=Zy hO;have HLV:=Zy h.lv;have HV:=Zy hv;clear hI hM hO h hv h0 hI1 hn1;have hal:=UC;have hbl:=Ap;have hB0:=(Xj.new w vs 36).alloc (.cells (XP Xu) 36);have c0:=hB0.cell (i:=j) (by rw[HLV.out];exact hj);rw[HV.out]at c0;have hB1:=Xj.new (w.alloc (.cells (XP vs) 36)) Xu 36;rw[Zv]at hB1;have hacc:=Zn w (.cells (XP vs) 36) (.cells (XP Xu) 36);have i0:(j:Int)<27:=QQ;rcases hl with hl|⟨rfl,hl1,hl2⟩
 all_goals
  go_enter Tryz.func292,Tryz.ntmps292
  go_upto_region 1 with fail
  change Code.wp _ _ _ _ ((w.alloc (.cells (XP vs) 36)).alloc (.cells (XP Xu) 36));generalize(w.alloc (.cells (XP vs) 36)).alloc (.cells (XP Xu) 36)=w1 at *;go_wp2_with (first|(go_at_call 304;refine(KT _ _).mono ?_;rintro e w1 ⟨rfl,rfl⟩;rw[HO.out,HM.out,HI.out])|(refine KS rfl _ _ rfl (w.heap.size+1) rfl Xu rfl Xu _ hB1 YS YS CF ?_;intro w2 hB2 hL2))
  exact QF4
theorem EJ(vs:List Value)(X:List (List Int))(name:Int)(j:Nat)(a:Option Addr)(n c:Nat)(t:List Int)(w:World)(h:yL w vs X)(hX:∀i,i<27->(rx X i).length<=17592186044416)(hI:jJ name=(j:Int))(hj:j<27)(hM:jY name=false)(hO:U4 name=true)
  (ht:Ints w a t) (hn:t.length=n) (h0:a=none->n=0) (hl:n<=200):
  Calls Tryz.prog 292 #[.agg (XP vs),.int .i64 name,.slice a n c] w (WA (ku X j t) 0 w):=by
 have H:=Zy h;have HX:=Zy hX;have HI:=Zy hI;have HM:=Zy hM;have HO:=Zy hO;have HN:=Zy hn;have HA:=Zy h0;clear h hX hI hM hO hn h0;have hal:=UC;have hB0:=(Xj.new w vs 36).alloc (.cells (XP Xu) 36);have hB1:=Xj.new (w.alloc (.cells (XP vs) 36)) Xu 36;rw[Zv]at hB1;have hacc:=Zn w (.cells (XP vs) 36) (.cells (XP Xu) 36);have hsz:w.heap.size+2<=((w.alloc (.cells (XP vs) 36)).alloc (.cells (XP Xu) 36)).heap.size:=QJ;have i0:(j:Int)<27:=QQ;go_enter Tryz.func292,Tryz.ntmps292
 go_upto_region 1 with fail
 change Code.wp _ _ _ _ ((w.alloc (.cells (XP vs) 36)).alloc (.cells (XP Xu) 36));generalize(w.alloc (.cells (XP vs) 36)).alloc (.cells (XP Xu) 36)=w1 at *;go_wp2_with (first|(go_at_call 304;refine(KT _ _).mono ?_;rintro e w1 ⟨rfl,rfl⟩;rw[HO.out,HM.out,HI.out])|(refine Uk rfl _ rfl w.heap.size rfl vs _ hB0 H.out.lv ?_))
 refine(vC vs X _ (H.out.below hacc) HX.out).mono ?_;rintro e w2 ⟨us,rfl,OI,hown,hsep,hb2⟩;have F8:=Zy OI;have HOW:=Zy hown;have HSE:=Zy hsep;clear OI hown hsep;have QZ7:=hB1.below hb2 hB1.lt;have hB2:=Xj.new w2 Xu 36;have JR:=ZE hacc QQ hb2;have UX:=JR.alloc (by have:=hb2.size;omega) (.cells (XP Xu) 36);have hz2:w.heap.size+2<=w2.heap.size:=by have:=hb2.size;omega
 have cB:pV us:=fun i hi=>by
  exact QFo
 have Iy:=QZ7.alloc (.cells (XP Xu) 36);have fM:=Zy cB;clear cB;go_wp2_with (refine KS rfl _ _ rfl w2.heap.size rfl us rfl Xu _ hB2 YS F8.out fM.out ?_;intro w4 hB4 hL4;have Ct:=hL4.size;rw[Zv]at Ct;have JS:=hL4.QKl QQ Iy;have Ub:=hL4.YX (ZB _) (ZT w2 (.cells (XP Xu) 36));have Ua:=hL4.YX QQ UX;clear hL4 UX Iy hB2)
 have hT:Ints w4 a t:=ht.below Ua;have QJv:w2.heap.size<w4.heap.size:=QQ;have HZ4:=Zy Ct;clear Ct;go_wp2_with ((go_at_call 43);refine(Zw a n c t _ hT HN.out QQ HA.out).mono ?_;rintro e w5 ⟨v5,rfl,hown5,hb5⟩;obtain⟨a5,n5,c5,rfl⟩:=hown5.form;have Wh:=hB4.below hb5 hB4.lt;have f6:=Wh.free j;have c6:=Wh.cell (i:=j) (by rw[F8.out];exact hj))
 have AJ:=hown5.setCell (a:=⟨w2.heap.size,j,none⟩) QJv (.slice a5 n5 c5);obtain⟨g1,g2,g3,g4,g5⟩:=AJ.sl.get;have G1:=Zy g1;have G5:=Zy g5;have hn5:n5<=200:=by rw[<-g1,HN.out];exact hl
 have kL:=Wh.set j (.slice a5 n5 c5);have dW:=(ZE Ua QQ hb5).setCell (p:=⟨w2.heap.size,j,none⟩) Qv (.slice a5 n5 c5);have hd7:=(ZE Ub QQ hb5).setCell (p:=⟨w2.heap.size,j,none⟩) (ZB _) (.slice a5 n5 c5);have hz7:w4.heap.size<=(w5.setCell ⟨w2.heap.size,j,none⟩ (.slice a5 n5 c5)).heap.size:=by rw[size_setCell];exact hb5.size
 have hU7:(us.set j (.slice a5 n5 c5)).length=27:=by rw[X4,F8.out]
 have HU7:=Zy hU7;have QZ2:=(JS.below hb5 QQ).other (a:=⟨w2.heap.size,j,none⟩) QY (.slice a5 n5 c5);clear g1 g5 Wh hU7;go_wp2_with (first|((go_at_call 43);refine(Zw a5 n5 c5 t _ g4 G1.out QQ G5.out).mono ?_;rintro e w8 ⟨v8,rfl,zM,XF⟩;obtain⟨a8,n8,c8,rfl⟩:=zM.form;have UW:=kL.below XF kL.lt;have f8:=UW.free 0;have e8:=UW.cell (i:=0) (by rw[HU7.out];omega);have U0:=UW.set 0 (.slice a8 n8 c8);have HU9:=Zy (show((us.set j (.slice a5 n5 c5)).set 0 (.slice a8 n8 c8)).length=27 by rw[X4,HU7.out]);have QZ1:=(QZ2.below XF QQ).other (a:=⟨w2.heap.size,0,none⟩) QY (.slice a8 n8 c8);have HS9:=Zy (OQ F8.out fM.out j a5 n5 c5 a8 n8 c8))|(refine Uk rfl _ rfl w2.heap.size rfl _ _ U0 HU9.out ?_)|(refine KS rfl _ _ rfl (w.heap.size+1) rfl ((us.set j (.slice a5 n5 c5)).set 0 (.slice a8 n8 c8)) rfl Xu _ QZ1 YS HU9.out HS9.out ?_;intro qB RS VD))
 have uj:=XF.size;refine ZC (Jw Tryz.results292 rfl (K8 RS HU9.out)) rfl ⟨_,rfl,OU F8.out H.out.lx hj (fun i hi hij=>?_) ?_ ?_,VD.YX QQ ((ZE dW QQ XF).setCell Qv _)⟩
 ·exact(((HOW.out i hi).kept ((ZE hd7 QQ XF).setCell (p:=⟨w2.heap.size,0,none⟩) (ZB _) _)).left VD QQ).mono QQ
 ·exact(((AJ.kept XF).setCell (by exact QJv) _).left VD QQ).mono QQ
 ·exact((zM.setCell QAk _).left VD QQ).mono QQ
theorem BG(vs:List Value)(X:List (List Int))(name:Int)(j:Nat)(a:Option Addr)(n c:Nat)(t:List Int)(w:World)(h:yL w vs X)(hX:∀i,i<27->(rx X i).length<=17592186044416)(hI:jJ name=(j:Int))(hj:j<27)(hM:jY name=true)(hO:U4 name=true)
  (ht:Ints w a t) (hn:t.length=n) (h0:a=none->n=0) (hl:n<=200) (hl2:(rx X j).length+n<=200):
  Calls Tryz.prog 292 #[.agg (XP vs),.int .i64 name,.slice a n c] w (WA (ku X j (rx X j++t)) 0 w):=by
 obtain⟨a1,n1,c1,hv,hn1,hc1,hc2,hI1,h01⟩:=h.sl j hj;rw[hn1]at hl2;have H:=Zy h;have HX:=Zy hX;have HI:=Zy hI;have HM:=Zy hM;have HO:=Zy hO;have HN:=Zy hn;have HA:=Zy h0;have HV:=Zy hv;have HN1:=Zy hn1;clear h hX hI hM hO hn h0 hv h01 hI1 hn1;have hal:=UC;have hB0:=(Xj.new w vs 36).alloc (.cells (XP Xu) 36);have c0:=hB0.cell (i:=j) (by rw[H.out.lv];exact hj);rw[HV.out]at c0;have hB1:=Xj.new (w.alloc (.cells (XP vs) 36)) Xu 36;rw[Zv]at hB1;have hacc:=Zn w (.cells (XP vs) 36) (.cells (XP Xu) 36);have hsz:w.heap.size+2<=((w.alloc (.cells (XP vs) 36)).alloc (.cells (XP Xu) 36)).heap.size:=QJ;have i0:(j:Int)<27:=QQ;go_enter Tryz.func292,Tryz.ntmps292
 go_upto_region 1 with fail
 change Code.wp _ _ _ _ ((w.alloc (.cells (XP vs) 36)).alloc (.cells (XP Xu) 36));generalize(w.alloc (.cells (XP vs) 36)).alloc (.cells (XP Xu) 36)=w1 at *;go_wp2_with (first|(go_at_call 304;refine(KT _ _).mono ?_;rintro e w1 ⟨rfl,rfl⟩;rw[HO.out,HM.out,HI.out])|(refine Uk rfl _ rfl w.heap.size rfl vs _ hB0 H.out.lv ?_))
 refine(vC vs X _ (H.out.below hacc) HX.out).mono ?_;rintro e w2 ⟨us,rfl,OI,hown,hsep,hb2⟩;have F8:=Zy OI;have HOW:=Zy hown;have HSE:=Zy hsep;clear OI hown hsep c0;have QZ7:=hB1.below hb2 hB1.lt;have hB2:=Xj.new w2 Xu 36;have JR:=ZE hacc QQ hb2;have UX:=JR.alloc (by have:=hb2.size;omega) (.cells (XP Xu) 36);have hz2:w1.heap.size<=w2.heap.size:=hb2.size;have cB:pV us:=fun i hi=>by
  exact QFo
 have Iy:=QZ7.alloc (.cells (XP Xu) 36);have fM:=Zy cB;clear cB;obtain⟨aj,nj,cj,mr⟩:=(HOW.out j hj).form;have HVJ:=Zy mr;clear mr;have hT:Ints w2 a t:=ht.below JR;have hA2:=HA.out;have HL2:=Zy (show(rx X j).length+n<=17592186044416 by rw[HN1.out];omega);clear hA2;go_wp2_with (first|(at_builtin;refine QXA rfl _ _ rfl w1.heap.size (.slice aj nj cj) (rx X j) t a n c rfl rfl AU hT4 HN.out HA.out HL2.out QQ ?_;intro v5 w5 hown5 Au;obtain⟨a5,n5,c5,rfl⟩:=hown5.form;have Wh:=hB4.grown Au (AU.Xa hB4 QZ);have QW3:=JS.grown Au (AU.Xa JS QZ);have f6:=Wh.free j;have c6:=Wh.cell (i:=j) (by rw[F8.out];exact hj))|(refine KS rfl _ _ rfl w2.heap.size rfl us rfl Xu _ hB2 YS F8.out fM.out ?_;intro w4 hB4 hL4;have Ct:=hL4.size;rw[Zv]at Ct;have JS:=hL4.QKl QQ Iy;have Ub:=hL4.YX (ZB _) (ZT w2 (.cells (XP Xu) 36));have Ua:=hL4.YX QQ UX;have AU:=(HOW.out j hj).kept Ub;have c4:=hB4.cell (i:=j) (by rw[F8.out];exact hj);have f4:=hB4.free j;rw[HVJ.out]at AU c4;have hT4:=ht.below Ua;clear hL4 UX Iy hB2))
 have AJ:=hown5.other (a:=⟨w2.heap.size,j,none⟩) (hown5.Xa Wh QZ) (.slice a5 n5 c5);obtain⟨g1,g2,g3,g4,g5⟩:=AJ.sl.get;have G1:=Zy g1;have G5:=Zy g5;have hn5:n5<=200:=by rw[<-g1,Zd,HN.out,HN1.out];exact hl2
 have kL:=Wh.set j (.slice a5 n5 c5);have QKQ:=Ua.grown Au QQ (fun k hk=>by have:=AU.row k hk;omega);have dW:=QKQ.setCell (p:=⟨w2.heap.size,j,none⟩) Qv (.slice a5 n5 c5);have hz7:w4.heap.size<=(w5.setCell ⟨w2.heap.size,j,none⟩ (.slice a5 n5 c5)).heap.size:=by rw[size_setCell];exact Au.size
 have hU7:(us.set j (.slice a5 n5 c5)).length=27:=by rw[X4,F8.out]
 have HU7:=Zy hU7;have QZ2:=QW3.other (a:=⟨w2.heap.size,j,none⟩) QY (.slice a5 n5 c5);have HO7:=Zy (show∀i,i<27->i≠j->Own 3 w1.heap.size (w5.setCell ⟨w2.heap.size,j,none⟩ (.slice a5 n5 c5)) (vx us i) (rx X i)from fun i hi hij=>by
  have h1:=(HOW.out i hi).kept Ub;have hs:Sep (vx us i) (.slice aj nj cj):=by
   rw[<-HVJ.out];rcases Nat.lt_or_gt_of_ne hij with h|h
   ·exact HSE.out i j h hj
   ·exact(HSE.out j i h hi).symm
  have h2:=h1.grown Au hs;exact Wh.put h2 QZ _ _)
 clear g1 g5 hU7 c4 f4;go_wp2_with (first|((go_at_call 43);refine(Zw a5 n5 c5 (rx X j++t) _ g4 G1.out QQ G5.out).mono ?_;rintro e w8 ⟨v8,rfl,zM,XF⟩;obtain⟨a8,n8,c8,rfl⟩:=zM.form;have UW:=kL.below XF kL.lt;have f8:=UW.free 0;have e8:=UW.cell (i:=0) (by rw[HU7.out];omega);have U0:=UW.set 0 (.slice a8 n8 c8);have HU9:=Zy (show((us.set j (.slice a5 n5 c5)).set 0 (.slice a8 n8 c8)).length=27 by rw[X4,HU7.out]);have QZ1:=(QZ2.below XF QQ).other (a:=⟨w2.heap.size,0,none⟩) QY (.slice a8 n8 c8);have HS9:=Zy (OQ F8.out fM.out j a5 n5 c5 a8 n8 c8))|(refine Uk rfl _ rfl w2.heap.size rfl _ _ U0 HU9.out ?_)|(refine KS rfl _ _ rfl (w.heap.size+1) rfl ((us.set j (.slice a5 n5 c5)).set 0 (.slice a8 n8 c8)) rfl Xu _ QZ1 YS HU9.out HS9.out ?_;intro qB RS VD))
 have uj:=XF.size;refine ZC (Jw Tryz.results292 rfl (K8 RS HU9.out)) rfl ⟨_,rfl,OU F8.out H.out.lx hj (fun i hi hij=>?_) ?_ ?_,VD.YX QQ ((ZE dW QQ XF).setCell Qv _)⟩
 ·have h1:=(HO7.out i hi hij).kept XF
  exact((UW.put h1 QZ _ _).left VD QQ).mono QQ
 ·have h1:=AJ.kept XF
  exact((UW.put h1 QZ _ _).left VD QQ).mono QQ
 ·exact((UW.put zM QZ _ _).left VD QQ).mono QQ
theorem ak(vs:List Value)(X:List (List Int))(name:Int)(a:Option Addr)(n c:Nat)(t:List Int)(w:World)(h:yL w vs X)(hX:∀i,i<27->(rx X i).length<=1048576)
  (ht:Ints w a t) (hn:t.length=n) (h0:a=none->n=0) (hl:n<=1048576):
  Calls Tryz.prog 292 #[.agg (XP vs),.int .i64 name,.slice a n c] w (WA (Jh X name t) (Ku X name t) w):=by
 have hX':∀i,i<27->(rx X i).length<=17592186044416:=fun i hi=>by have:=hX i hi;omega
 cases hO:U4 name
 ·rw[(Oz hO).1,(Oz hO).2]
  exact EK vs X name _ w hO
 ·obtain⟨j1,j2,j3⟩:=EU hO
  cases hM:jY name
  ·rw[(OW hO hM).1,(OW hO hM).2,hn]
   by_cases h2:200<n
   ·rw[if_pos h2,if_pos h2]
    exact qH vs X name _ false a n c w h j2 j1 hM hO (.inl h2) QQ
   ·rw[if_neg h2,if_neg h2]
    exact EJ vs X name _ a n c t w h hX' j2 j1 hM hO ht hn h0 QQ
  ·rw[(G6 hO hM).1,(G6 hO hM).2,hn]
   by_cases h2:200<(rx X (WU name)).length+n
   ·rw[if_pos h2,if_pos h2]
    exact qH vs X name _ true a n c w h j2 j1 hM hO (by by_cases h3:200<n;exact .inl h3;exact .inr ⟨rfl,QQ,h2⟩) QQ
   ·rw[if_neg h2,if_neg h2]
    exact BG vs X name _ a n c t w h hX' j2 j1 hM hO ht hn h0 QQ QQ
structure Sp where
 f:Int
 t:Int
 x:List Int
def sp(es:List Sp)(i:Nat):Sp:=es.getD i ⟨0,0,[]⟩
end Go.Proofs.YtmdcencmiopmmaaGreat
