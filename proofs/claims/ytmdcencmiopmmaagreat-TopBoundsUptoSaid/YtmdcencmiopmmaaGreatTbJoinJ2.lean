/- LiftTopBounds: joined, no condition of its own. -/
import Derived.Test.YtmdcencmiopmmaaGreatTbJoinT
import Derived.Test.YtmdcencmiopmmaaGreatTbJoinJ1
set_option linter.unusedVariables false
set_option linter.unusedSimpArgs false
set_option maxRecDepth 100000
set_option maxHeartbeats 12000000
namespace Go.Proofs.YtmdcencmiopmmaaGreat
open Go.RowKit
theorem Yb:Tryz.prog.underlying 36=some (.array 27 26):=by kernel_rfl
theorem YU:(Tryz.prog.info? 36).map (·.size)=some 27:=by kernel_rfl
def Q9:List Value:=List.replicate 27 (.slice none 0 0)
theorem Vi{α:Type}(n:Nat)(v d:α){i:Nat}(h:i<n):(List.replicate n v).getD i d=v:=by simp[List.getElem?_replicate,h]
theorem Df{i:Nat}(h:i<27):vx Q9 i=.slice none 0 0:=Vi 27 _ _ h
theorem XA:Q9.length=27:=rfl
theorem Jm(w:World):(Instr.alloc 36 true (.tuple #[])).run Tryz.prog w=.ok (.pointer (some ⟨w.heap.size,0,none⟩)) (w.alloc (.cells (ZT Q9) 36)):=by kernel_rfl
theorem uK(w:World):(Instr.build 36 #[]).run Tryz.prog w=.ok (.agg (ZT Q9)) w:=by kernel_rfl
def iJ(vs:List Value):Prop:=∀i,i<vs.length->∃a n c,vx vs i=.slice a n c
theorem vo:iJ Q9:=by
 intro i hi;exact⟨none,0,0,Df hi⟩
structure Ah (w:World) (vs:List Value) (X:List (List Int)):Prop where
 lv:vs.length=27
 lx:X.length=27
 sl:∀i,i<27->Sl w (vx vs i) (rx X i)
theorem Ah.keep{w w':World}{vs:List Value}{X:List (List Int)}(h:Ah w vs X)(hc:∀p v,w.cell? p=some v->w'.cell? p=some v):Ah w' vs X:=
 ⟨h.lv,h.lx,fun i hi=>(h.sl i hi).keep hc⟩
theorem Ah.below{w w':World}{vs:List Value}{X:List (List Int)}(h:Ah w vs X)(hb:Below w.heap.size w w'):Ah w' vs X:=h.keep (Qk hb)
theorem Ah.slv{w:World}{vs:List Value}{X:List (List Int)}(h:Ah w vs X):iJ vs:=by
 intro i hi;obtain⟨a,n,c,h1,_⟩:=h.sl i (by rw[<-h.lv];exact hi);exact⟨a,n,c,h1⟩
def UB:List (List Int):=List.replicate 27 []
def ZY(w:World)(B:Nat)(vs:List Value)(e:TypeId):Prop:=QD w B (ZT vs) e
theorem ZY.cell{w:World}{B:Nat}{vs:List Value}{e:TypeId}(h:ZY w B vs e){i:Nat}(hi:i<vs.length):w.cell? ⟨B,i,none⟩=some (vx vs i):=by
 rw[QD.cell h i];simp[ZT,vx,hi]
theorem ZY.set{w:World}{B:Nat}{vs:List Value}{e:TypeId}(h:ZY w B vs e)(i:Nat)(v:Value):ZY (w.setCell ⟨B,i,none⟩ v) B (vs.set i v) e:=by
 have:=QD.set h i v;unfold ZY
 rwa[show(ZT vs).setIfInBounds i v=ZT (vs.set i v)from by simp[ZT]]at this
theorem ZY.free{w:World}{B:Nat}{vs:List Value}{e:TypeId}(h:ZY w B vs e)(i:Nat):w.frozen? ⟨B,i,none⟩=false:=QD.free h i
theorem ZY.lt{w:World}{B:Nat}{vs:List Value}{e:TypeId}(h:ZY w B vs e):B<w.heap.size:=QD.lt h
theorem ZY.alloc{w:World}{B:Nat}{vs:List Value}{e:TypeId}(h:ZY w B vs e)(o:Obj):ZY (w.alloc o) B vs e:=QD.alloc h o
theorem ZY.new(w:World)(vs:List Value)(e:TypeId):ZY (w.alloc (.cells (ZT vs) e)) w.heap.size vs e:=QD.new w _ e
theorem ZY.other{w:World}{B:Nat}{vs:List Value}{e:TypeId}(h:ZY w B vs e){a:Addr}(ha:B≠a.block)(u:Value):ZY (w.setCell a u) B vs e:=QD.other h ha u
theorem ZY.below{w w':World}{B N:Nat}{vs:List Value}{e:TypeId}(h:ZY w B vs e)(hb:Below N w w')(hN:B<N):ZY w' B vs e:=QD.below h hb hN
theorem ZY.grown{w w':World}{B:Nat}{vs:List Value}{e:TypeId}{row:Option Nat}(h:ZY w B vs e)(hg:w.grownBy w' row)(hr:some B≠row):ZY w' B vs e:=QD.grown h hg hr
theorem ZY.ne{w:World}{B:Nat}{us:List Value}{e e':TypeId}{base:Nat}{v:Value}{xs:List Int}(hB:ZY w B us e')(h:Own e base w v xs)(he:e≠e'):some B≠v.ownBlock:=h.ZA hB he
theorem ZY.put{w:World}{B:Nat}{us:List Value}{e e':TypeId}{base:Nat}{v:Value}{xs:List Int}(hB:ZY w B us e')(h:Own e base w v xs)(he:e≠e')(i:Nat)(u:Value):Own e base (w.setCell ⟨B,i,none⟩ u) v xs:=h.other (a:=⟨B,i,none⟩) (hB.ne h he) u
theorem Jf{ops:Array Oper}{rest:List Oper}{op:Oper}{a:Act}{w:World}{Q:Exit->Act->World->Prop}(hgd:op.guard=none)(x:Operand)(ho:op.op=.load 36 x)
  (B:Nat) (hx:a.eval x=.pointer (some ⟨B,0,none⟩)) (vs:List Value) (e:TypeId) (hB:ZY w B vs e) (hl:vs.length=27)
  (h:wpList Tryz.prog ops Q rest (a.put op.dst (.agg (ZT vs))) w):wpList Tryz.prog ops Q (op::rest) a w:=
 wpList_load_row hgd 36 x ho B hx e (ZT vs) (0,0) _ hB Yb rfl (by rw[XM,hl];exact YU) h
theorem JX{ops:Array Oper}{rest:List Oper}{op:Oper}{a:Act}{w:World}{Q:Exit->Act->World->Prop}(hgd:op.guard=none)(x y:Operand)(ho:op.op=.store 36 x y)
  (B:Nat) (hx:a.eval x=.pointer (some ⟨B,0,none⟩)) (us:List Value) (hy:a.eval y=.agg (ZT us)) (vs:List Value) (e:TypeId) (hB:ZY w B vs e) (hl:vs.length=27) (hl2:us.length=27) (hs:iJ us)
  (h:∀w',ZY w' B us e->Left B w w'->wpList Tryz.prog ops Q rest (a.put op.dst undef) w'):wpList Tryz.prog ops Q (op::rest) a w:=by
 refine wpList_store_mid hgd 36 x y ho B 0 (ZT us) hx hy ?_ (by rw[XM,hl2];exact YU) ?_ (h _ ?_ ⟨fun hne hb=>hb.Uv hne _ 0,fun hN hb=>below_setCells hN _ 0 hb,size_setCells _ _ _⟩)
 ·intro j hj
  rw[XM]at hj;rw[Zu];exact⟨by rw[hB.cell (by omega)];rfl,hB.free j⟩
 ·refine Xd ?_
  intro v hv;obtain⟨i,hi,rfl⟩:=Ap hv;obtain⟨a,n,c,hv⟩:=hs i hi;rw[hv];rfl
 ·have:=QD.setCells (ZT us).toList 0 hB
  rw[oq (by simp[XM,hl,hl2])]at this;exact this
theorem Left.QYK{B:Nat}{w w':World}(h:Left B w w'){B':Nat}{vs:List Value}{e:TypeId}(hne:B'≠B)(hb:ZY w B' vs e):ZY w' B' vs e:=h.blk hne hb
theorem JE{w:World}{B:Nat}{vs:List Value}{e:TypeId}(hB:ZY w B vs e)(hl:vs.length=27):(loadVar 36 ⟨B,0,none⟩).run Tryz.prog w=.ok (.agg (ZT vs)) w:=
 run_loadVar_row w B e 36 (ZT vs) (0,0) _ hB Yb rfl (by rw[XM,hl];exact YU)
theorem AX{fn:Func}{s:Tmp}{T:TypeId}(h:fn.results=#[.cell s T]){tmps:Array Value}{P:Program}{w:World}{ad:Addr}{v:Value}(hp:tmps.getD s undef=.pointer (some ad))(hl:(loadVar T ad).run P w=.ok v w):
  (results fn tmps).run P w=.ok v w:=by
 exact QAu
theorem Own.left{e:TypeId}{base B:Nat}{w w':World}{v:Value}{xs:List Int}(h:Own e base w v xs)(hL:Left B w w')(hb:B<base):Own e base w' v xs:=by
 refine⟨h.1,?_⟩;rcases h.2 with hn|⟨g,cap,cur,rfl,hb',hgg,rest⟩
 ·exact .inl hn
 ·exact .inr ⟨g,cap,cur,rfl,hb',hL.blk (by omega) hgg,rest⟩
def zH(name:Int):Int:=if name=0 then 0 else if 97<=name/\name<=122 then name-97+1 else if 65<=name/\name<=90 then name-65+1 else 0
def zG(name:Int):Bool:=if name=0 then false else if 97<=name/\name<=122 then false else if 65<=name/\name<=90 then true else false
def KD(name:Int):Bool:=if name=0 then true else if 97<=name/\name<=122 then true else if 65<=name/\name<=90 then true else false
theorem JY(name:Int)(w:World):
  Calls Tryz.prog 304 #[.int .i64 name] w fun e w'=>e=.returned (.tuple #[.int .i64 (zH name),.bool (zG name),.bool (KD name)])/\w=w':=by
 unfold zH zG KD;by_cases h0:name=0
 ·subst h0
  exact Qvb
 have h0':(name==0)=false:=by simpa using h0
 rw[if_neg h0,if_neg h0,if_neg h0];clear h0;by_cases h:97<=name/\name<=122
 ·rw[if_pos h,if_pos h,if_pos h]
  obtain⟨h1,h2⟩:=h;exact Qvb
 ·rw[if_neg h,if_neg h,if_neg h]
  by_cases h':65<=name/\name<=90
  ·rw[if_pos h',if_pos h']
   obtain⟨h1,h2⟩:=h';clear h;exact Qvb
  ·rw[if_neg h',if_neg h']
   have hd:name<65\/(90<name/\name<97)\/122<name:=by omega
   clear h h';rcases hd with h|⟨h,h'⟩|h
   all_goals
    go_enter Tryz.func304,Tryz.ntmps304
    go_wp2
    all_goals
     go_ret3
     exact⟨rfl,rfl⟩
def iF(X:List (List Int))(w:World)(e:Ending)(w':World):Prop:=
 ∃vs,e=.returned (.agg (ZT vs))/\vs.length=27/\(∀i,i<27->Own 3 w.heap.size w' (vx vs i) (rx X i))/\(∀i j,i<j->j<27->Sep (vx vs i) (vx vs j))/\Below w.heap.size w w'
theorem jP(vs:List Value)(X:List (List Int))(w:World)(h:Ah w vs X)(hX:∀i,i<27->(rx X i).length<=17592186044416):
  Calls Tryz.prog 305 #[.agg (ZT vs)] w (iF X w):=by
 have hal:=Jm;have H:=QQ h;have HX:=QQ hX;clear h hX;have hB0:=(ZY.new w vs 36).alloc (.cells (ZT Q9) 36);have hB1:=ZY.new (w.alloc (.cells (ZT vs) 36)) Q9 36;rw[QJ]at hB1;have hacc:=QS w (.cells (ZT vs) 36) (.cells (ZT Q9) 36);have hsz:w.heap.size+2<=((w.alloc (.cells (ZT vs) 36)).alloc (.cells (ZT Q9) 36)).heap.size:=by simp
 go_enter Tryz.func305,Tryz.ntmps305
 go_upto_region 1 with fail
 change Code.wp _ _ _ _ ((w.alloc (.cells (ZT vs) 36)).alloc (.cells (ZT Q9) 36));generalize(w.alloc (.cells (ZT vs) 36)).alloc (.cells (ZT Q9) 36)=w1 at *;go_wp2
 go_loopw [4] (fun i wr=>∃k:Nat,i=.int .i64 (k:Int)/\k<=27/\∃us,us.length=27/\ZY wr w.heap.size us 36/\ZY wr (w.heap.size+1) Q9 36/\
   (∀i,i<k->Own 3 (w.heap.size+2) wr (vx us i) (rx X i))/\(∀i j,i<j->j<k->Sep (vx us i) (vx us j))/\(∀i,k<=i->i<27->vx us i=vx vs i)/\Below w.heap.size w wr/\w.heap.size+2<=wr.heap.size) (fun i _=>27-(intOf i).toNat)
 case atStart=>exact⟨0,rfl,by omega,vs,H.out.lv,hB0,hB1,fun i hi=>by omega,fun i j _ hj=>by omega,fun i _ _=>rfl,hacc,hsz⟩
 case round=>
  obtain⟨k,rfl,hk,us,hl,hb0,hb1,hown,hsep,hold,hbel,hs⟩:=hrel;have HL:=QQ hl;have HO:=QQ hown;have HS:=QQ hsep;have HD:=QQ hold;clear hl hown hsep hold;by_cases hlt:k<27
  ·obtain⟨a,n,c,hv,hn,hc1,hc2,hI,h0⟩:=H.out.sl k hlt
   have c0:=hb0.cell (i:=k) (by rw[HL.out];exact hlt);have f0:=hb0.free k;rw[HD.out k (QU _) hlt,hv]at c0;have hI':=hI.below hbel;have HN:=QQ hn;have H0:=QQ h0;have HV:=QQ hv;have i0:(k:Int)<27:=by omega
   have hn2:n<=17592186044416:=by have:=HX.out k hlt;rw[HN.out]at this;exact this
   clear hn h0 hv hI hc1 hc2;go_wp2_with (go_at_call 43;refine(Ql a n c (rx X k) _ hI' HN.out hn2 H0.out).mono ?_;rintro e w2 ⟨v2,rfl,hown2,Yk⟩;obtain⟨a2,n2,c2,rfl⟩:=hown2.form;have ry:=hb0.below Yk hb0.lt;have hc0':=ry.cell (i:=k) (by rw[HL.out];exact hlt);have QzM:=ry.free k;have hb1':=hb1.below Yk hb1.lt)
   go_roundw
   case rel=>
    have hl':us.length=27:=HL.out;have hbs:=Yk.size;refine⟨k+1,by go_num,by omega,us.set k (.slice a2 n2 c2),by simpa using hl',ry.set k _,hb1'.other (by simp) _,fun i hi=>?_,fun i j hij hj=>?_,fun i h1 h2=>?_,(QW hbel (by omega) Yk).setCell (QU _) _,by rw[size_setCell];omega⟩
    ·by_cases hik:i=k
     ·subst hik
      rw[Z9 (by omega)];exact(hown2.mono (by omega)).setCell (by simp) _
     ·rw[Qu (fun h=>hik h.symm)]
      exact((HO.out i (by omega)).kept Yk).setCell (by simp) _
    ·by_cases hjk:j=k
     ·subst hjk
      rw[Z9 (by omega),Qu (by omega)];exact(HO.out i (by omega)).sep hown2
     ·rw[Qu (fun h=>hjk h.symm),Qu (by omega)]
      exact HS.out i j hij (by omega)
    ·rw[Qu (by omega)]
     exact HD.out i (by omega) h2
   case measure=>simp[intOf];omega
  ·obtain rfl:k=27:=by omega
   have hsl:iJ us:=by
    intro i hi;obtain⟨a,n,c,h⟩:=(HO.out i (by rw[HL.out]at hi;exact hi)).form;exact⟨a,n,c,h⟩
   have HSL:=QQ hsl;clear hsl hlt;go_wp2_with (first|(refine Jf rfl _ rfl w.heap.size rfl us _ hb0 HL.out ?_)|(refine JX rfl _ _ rfl (w.heap.size+1) rfl us rfl Q9 _ hb1 XA HL.out HSL.out ?_;intro w2 hB2 hL2))
   refine QV (AX Tryz.results305 rfl (JE hB2 HL.out)) rfl ?_;exact⟨us,rfl,HL.out,fun i hi=>((HO.out i hi).left hL2 (by omega)).mono (by omega),HS.out,hL2.XW (by omega) hbel⟩
def xP(X:List (List Int))(j:Nat)(y:List Int):List (List Int):=(X.set j y).set 0 y
theorem LD{us:List Value}(hl:us.length=27)(hs:iJ us)(j:Nat)(a5:Option Addr)(n5 c5:Nat)(a8:Option Addr)(n8 c8:Nat):iJ ((us.set j (.slice a5 n5 c5)).set 0 (.slice a8 n8 c8)):=by
 intro i hi;rw[Zm,Zm]at hi;by_cases h0:i=0
 ·subst h0
  exact⟨a8,n8,c8,Z9 (by rw[Zm];exact hi) _⟩
 ·rw[Qu (fun e=>h0 e.symm)]
  by_cases hij:i=j
  ·subst hij
   exact⟨a5,n5,c5,Z9 hi _⟩
  ·rw[Qu (fun e=>hij e.symm)]
   exact hs i hi
def zY(y:List Int)(E:Int)(w:World)(e:Ending)(w':World):Prop:=∃v,e=.returned (.tuple #[v,.int .i64 E])/\Sl w' v y/\Below w.heap.size w w'
def NV(y:List Int):Int:=if y=[]then 6 else 0
theorem EC(vs:List Value)(name:Int)(w:World)(hO:KD name=false):
  Calls Tryz.prog 291 #[.agg (ZT vs),.int .i64 name] w (zY [] 9 w):=by
 have HO:=QQ hO;clear hO;go_enter Tryz.func291,Tryz.ntmps291
 go_wp2_with (first|(go_at_call 304;refine(JY _ _).mono ?_;rintro e w1 ⟨rfl,rfl⟩;rw[HO.out]))
 go_ret2
 exact⟨_,rfl,Sl.nil _,QC _ _⟩
theorem Gs(vs:List Value)(X:List (List Int))(name:Int)(j:Nat)(w:World)(h:Ah w vs X)(hX:(rx X j).length<=17592186044416)(hI:zH name=(j:Int))(hj:j<27)(hO:KD name=true):
  Calls Tryz.prog 291 #[.agg (ZT vs),.int .i64 name] w (zY (rx X j) (NV (rx X j)) w):=by
 obtain⟨a1,n1,c1,hv,hn1,hc1,hc2,hI1,h01⟩:=h.sl j hj;rw[hn1]at hX;have HI:=QQ hI;have HO:=QQ hO;have HV:=QQ hv;have HN1:=QQ hn1;have H01:=QQ h01;have HLV:=QQ h.lv;clear h hI hO hv h01 hn1;have hB0:=ZY.new w vs 36;have c0:=hB0.cell (i:=j) (by rw[HLV.out];exact hj);rw[HV.out]at c0;have hacc:=QC w (.cells (ZT vs) 36);have i0:(j:Int)<27:=by omega
 have hI2:=hI1.below hacc;have hsz:(w.alloc (.cells (ZT vs) 36)).heap.size=w.heap.size+1:=by simp
 have HSZ:=QQ hsz;clear hsz;by_cases hz:n1=0
 ·have hnil:rx X j=[]:=QH (by rw[HN1.out];exact hz)
  subst hz;have hE:NV (rx X j)=6:=by rw[hnil];rfl
  have QU6:=QQ hnil;have HE:=QQ hE;clear hnil hE;go_enter Tryz.func291,Tryz.ntmps291
  go_wp2_with (first|(go_at_call 304;refine(JY _ _).mono ?_;rintro e w1 ⟨rfl,rfl⟩;rw[HO.out,HI.out]))
  go_ret2
  rw[HE.out,QU6.out];exact⟨_,rfl,Sl.nil _,hacc⟩
 ·have hz':((n1:Int)==0)=false:=by simp;omega
  have hnil:rx X j≠[]:=fun h=>hz (by rw[<-HN1.out,h];rfl)
  have hE:NV (rx X j)=0:=if_neg hnil;have HE:=QQ hE;clear hnil hz hE;go_enter Tryz.func291,Tryz.ntmps291
  go_wp2_with (first|(go_at_call 304;refine(JY _ _).mono ?_;rintro e w1 ⟨rfl,rfl⟩;rw[HO.out,HI.out])|((go_at_call 43);refine(Ql a1 n1 c1 (rx X j) _ hI2 HN1.out hX H01.out).mono ?_;rintro e w5 ⟨v5,rfl,hown5,hb5⟩))
  go_ret2
  rw[HE.out];exact⟨_,rfl,hown5.sl,QW hacc (by rw[HSZ.out];omega) hb5⟩
def QZE(name:Int):Int:=if KD name=true then zH name else-1
theorem NF(name:Int):(KD name=false/\zG name=false/\zH name=0)\/(KD name=true/\0<=zH name/\zH name<27):=by
 unfold KD zG zH;by_cases h0:name=0
 ·simp[h0]
 ·by_cases h1:97<=name/\name<=122
  ·rw[if_neg h0,if_neg h0,if_neg h0,if_pos h1,if_pos h1,if_pos h1];right;exact⟨by trivial,by omega,by omega⟩
  ·by_cases h2:65<=name/\name<=90
   ·simp only[if_neg h0,if_neg h1,if_pos h2];right;exact⟨by trivial,by omega,by omega⟩
   ·simp only[if_neg h0,if_neg h1,if_neg h2];left;exact⟨by trivial,by trivial,by trivial⟩
def Uc(name:Int):Nat:=(zH name).toNat
def Y0(X:List (List Int))(name:Int)(t:List Int):Int:=
 if KD name=false then 9 else if zG name=true then(if 200<(rx X (Uc name)).length+t.length then 2 else 0)else if 200<t.length then 2 else 0
def YF(X:List (List Int))(name:Int)(t:List Int):List (List Int):=
 if KD name=false then UB else if zG name=true then(if 200<(rx X (Uc name)).length+t.length then UB else xP X (Uc name) (rx X (Uc name)++t))else if 200<t.length then UB else xP X (Uc name) t
def JO(X:List (List Int))(name:Int):List Int:=if KD name=false then[]else rx X (Uc name)
def WH(X:List (List Int))(name:Int):Int:=if KD name=false then 9 else NV (rx X (Uc name))
theorem BS{name:Int}(h:KD name=true):Uc name<27/\zH name=(Uc name:Int)/\QZE name=(Uc name:Int):=by
 rcases NF name with h1|⟨_,h2,h3⟩
 ·rw[h]at h1;simp at h1
 ·unfold Uc QZE
  rw[if_pos h];omega
theorem Ld{X:List (List Int)}{name:Int}{t:List Int}(hO:KD name=false):YF X name t=UB/\Y0 X name t=9:=by simp[YF,Y0,hO]
theorem Lb{X:List (List Int)}{name:Int}{t:List Int}(hO:KD name=true)(hM:zG name=false):YF X name t=(if 200<t.length then UB else xP X (Uc name) t)/\Y0 X name t=(if 200<t.length then 2 else 0):=by simp[YF,Y0,hO,hM]
theorem EE{X:List (List Int)}{name:Int}{t:List Int}(hO:KD name=true)(hM:zG name=true):YF X name t=(if 200<(rx X (Uc name)).length+t.length then UB else xP X (Uc name) (rx X (Uc name)++t))/\Y0 X name t=(if 200<(rx X (Uc name)).length+t.length then 2 else 0):=by simp[YF,Y0,hO,hM]
theorem dW(vs:List Value)(X:List (List Int))(name:Int)(w:World)(h:Ah w vs X)(hX:∀i,i<27->(rx X i).length<=1048576):
  Calls Tryz.prog 291 #[.agg (ZT vs),.int .i64 name] w (zY (JO X name) (WH X name) w):=by
 cases hO:KD name
 ·rw[JO,WH,if_pos hO,if_pos hO]
  exact EC vs name w hO
 ·obtain⟨j1,j2,j3⟩:=BS hO
  rw[JO,WH,if_neg (by simp[hO]),if_neg (by simp[hO])];exact Gs vs X name _ w h (by have:=hX _ j1;omega) j2 j1 hO
structure I6 (base:Nat) (w:World) (vs:List Value) (X:List (List Int)):Prop where
 lv:vs.length=27
 lx:X.length=27
 ow:∀i,i<27->Own 3 base w (vx vs i) (rx X i)
theorem La(base:Nat)(w:World):I6 base w Q9 UB:=by
 refine⟨rfl,rfl,fun i hi=>?_⟩;have h1:vx Q9 i=.slice none 0 0:=Df hi;have h2:rx UB i=[]:=Vi 27 _ _ hi;rw[h1,h2];exact Own.nil _ _ _
theorem I6.O4{base:Nat}{w:World}{vs:List Value}{X:List (List Int)}(h:I6 base w vs X):Ah w vs X:=⟨h.lv,h.lx,fun i hi=>(h.ow i hi).sl⟩
theorem I6.slv{base:Nat}{w:World}{vs:List Value}{X:List (List Int)}(h:I6 base w vs X):iJ vs:=h.O4.slv
def Um(Y:List (List Int))(E:Int)(w:World)(e:Ending)(w':World):Prop:=∃vs,e=.returned (.tuple #[.agg (ZT vs),.int .i64 E])/\I6 w.heap.size w' vs Y/\Below w.heap.size w w'
theorem LP{w:World}{N:Nat}{us:List Value}{X:List (List Int)}{j:Nat}{y:List Int}{v v2:Value}(hl:us.length=27)(hx:X.length=27)(hj:j<27)(h:∀i,i<27->i≠j->Own 3 N w (vx us i) (rx X i))(h1:Own 3 N w v y)(h2:Own 3 N w v2 y):
  I6 N w ((us.set j v).set 0 v2) (xP X j y):=by
 refine⟨by simpa using hl,by simpa[xP]using hx,fun i hi=>?_⟩;unfold xP;by_cases h0:i=0
 ·subst h0
  rw[Z9 (by simp;omega),zB (by simp;omega)];exact h2
 ·rw[Qu (fun e=>h0 e.symm),zA (fun e=>h0 e.symm)]
  by_cases hij:i=j
  ·subst hij
   rw[Z9 (by omega),zB (by omega)];exact h1
  ·rw[Qu (fun e=>hij e.symm),zA (fun e=>hij e.symm)]
   exact h i hi hij
theorem BR(vs:List Value)(X:List (List Int))(name:Int)(tv:Value)(w:World)(hO:KD name=false):
  Calls Tryz.prog 292 #[.agg (ZT vs),.int .i64 name,tv] w (Um UB 9 w):=by
 have HO:=QQ hO;clear hO;have hal:=Jm;have hbl:=uK;have hB1:=ZY.new (w.alloc (.cells (ZT vs) 36)) Q9 36;rw[QJ]at hB1;have hacc:=QS w (.cells (ZT vs) 36) (.cells (ZT Q9) 36);go_enter Tryz.func292,Tryz.ntmps292
 go_wp2_with (first|(go_at_call 304;refine(JY _ _).mono ?_;rintro e w1 ⟨rfl,rfl⟩;rw[HO.out])|(refine JX rfl _ _ rfl (w.heap.size+1) rfl Q9 rfl Q9 _ hB1 XA XA vo ?_;intro w2 hB2 hL2))
 exact QAI
theorem VR(vs:List Value)(X:List (List Int))(name:Int)(j:Nat)(mo:Bool)(a:Option Addr)(n c:Nat)(w:World)(h:Ah w vs X)(hI:zH name=(j:Int))(hj:j<27)(hM:zG name=mo)(hO:KD name=true)
  (hl:200<n\/(mo=true/\n<=200/\200<(rx X j).length+n)) (hn:n<=9223372036854775807):
  Calls Tryz.prog 292 #[.agg (ZT vs),.int .i64 name,.slice a n c] w (Um UB 2 w):=by
 obtain⟨a1,n1,c1,hv,hn1,hc1,hc2,hI1,h0⟩:=h.sl j hj;rw[hn1]at hl;have HI:=QQ hI;have HM:=QQ hM;have HO:=QQ hO;have HLV:=QQ h.lv;have HV:=QQ hv;clear hI hM hO h hv h0 hI1 hn1;have hal:=Jm;have hbl:=uK;have hB0:=(ZY.new w vs 36).alloc (.cells (ZT Q9) 36);have c0:=hB0.cell (i:=j) (by rw[HLV.out];exact hj);rw[HV.out]at c0;have hB1:=ZY.new (w.alloc (.cells (ZT vs) 36)) Q9 36;rw[QJ]at hB1;have hacc:=QS w (.cells (ZT vs) 36) (.cells (ZT Q9) 36);have i0:(j:Int)<27:=by omega
 rcases hl with hl|⟨rfl,hl1,hl2⟩
 all_goals
  go_enter Tryz.func292,Tryz.ntmps292
  go_upto_region 1 with fail
  change Code.wp _ _ _ _ ((w.alloc (.cells (ZT vs) 36)).alloc (.cells (ZT Q9) 36));generalize(w.alloc (.cells (ZT vs) 36)).alloc (.cells (ZT Q9) 36)=w1 at *;go_wp2_with (first|(go_at_call 304;refine(JY _ _).mono ?_;rintro e w1 ⟨rfl,rfl⟩;rw[HO.out,HM.out,HI.out])|(refine JX rfl _ _ rfl (w.heap.size+1) rfl Q9 rfl Q9 _ hB1 XA XA vo ?_;intro w2 hB2 hL2))
  exact QAI
theorem BP(vs:List Value)(X:List (List Int))(name:Int)(j:Nat)(a:Option Addr)(n c:Nat)(t:List Int)(w:World)(h:Ah w vs X)(hX:∀i,i<27->(rx X i).length<=17592186044416)(hI:zH name=(j:Int))(hj:j<27)(hM:zG name=false)(hO:KD name=true)
  (ht:Ints w a t) (hn:t.length=n) (h0:a=none->n=0) (hl:n<=200):
  Calls Tryz.prog 292 #[.agg (ZT vs),.int .i64 name,.slice a n c] w (Um (xP X j t) 0 w):=by
 have H:=QQ h;have HX:=QQ hX;have HI:=QQ hI;have HM:=QQ hM;have HO:=QQ hO;have HN:=QQ hn;have HA:=QQ h0;clear h hX hI hM hO hn h0;have hal:=Jm;have hB0:=(ZY.new w vs 36).alloc (.cells (ZT Q9) 36);have hB1:=ZY.new (w.alloc (.cells (ZT vs) 36)) Q9 36;rw[QJ]at hB1;have hacc:=QS w (.cells (ZT vs) 36) (.cells (ZT Q9) 36);have hsz:w.heap.size+2<=((w.alloc (.cells (ZT vs) 36)).alloc (.cells (ZT Q9) 36)).heap.size:=by simp
 have i0:(j:Int)<27:=by omega
 go_enter Tryz.func292,Tryz.ntmps292
 go_upto_region 1 with fail
 change Code.wp _ _ _ _ ((w.alloc (.cells (ZT vs) 36)).alloc (.cells (ZT Q9) 36));generalize(w.alloc (.cells (ZT vs) 36)).alloc (.cells (ZT Q9) 36)=w1 at *;go_wp2_with (first|(go_at_call 304;refine(JY _ _).mono ?_;rintro e w1 ⟨rfl,rfl⟩;rw[HO.out,HM.out,HI.out])|(refine Jf rfl _ rfl w.heap.size rfl vs _ hB0 H.out.lv ?_))
 refine(jP vs X _ (H.out.below hacc) HX.out).mono ?_;rintro e w2 ⟨us,rfl,MZ,hown,hsep,hb2⟩;have DN:=QQ MZ;have HOW:=QQ hown;have HSE:=QQ hsep;clear MZ hown hsep;have sI:=hB1.below hb2 hB1.lt;have hB2:=ZY.new w2 Q9 36;have Yk:=QW hacc (by omega) hb2;have JL:=Yk.alloc (by have:=hb2.size;omega) (.cells (ZT Q9) 36);have hz2:w.heap.size+2<=w2.heap.size:=by have:=hb2.size;omega
 have Sc:iJ us:=fun i hi=>by
  exact QAN
 have E5:=sI.alloc (.cells (ZT Q9) 36);have ay:=QQ Sc;clear Sc;go_wp2_with (refine JX rfl _ _ rfl w2.heap.size rfl us rfl Q9 _ hB2 XA DN.out ay.out ?_;intro w4 hB4 hL4;have Av:=hL4.size;rw[QJ]at Av;have Yu:=hL4.QYK (by omega) E5;have Jw:=hL4.XW (QU _) (QC w2 (.cells (ZT Q9) 36));have J9:=hL4.XW (by omega) JL;clear hL4 JL E5 hB2)
 have hT:Ints w4 a t:=ht.below J9;have QZm:w2.heap.size<w4.heap.size:=by omega
 have HZ4:=QQ Av;clear Av;go_wp2_with ((go_at_call 43);refine(Ql a n c t _ hT HN.out (by omega) HA.out).mono ?_;rintro e w5 ⟨v5,rfl,hown5,hb5⟩;obtain⟨a5,n5,c5,rfl⟩:=hown5.form;have Uw:=hB4.below hb5 hB4.lt;have f6:=Uw.free j;have c6:=Uw.cell (i:=j) (by rw[DN.out];exact hj))
 have kZ:=hown5.setCell (a:=⟨w2.heap.size,j,none⟩) QZm (.slice a5 n5 c5);obtain⟨g1,g2,g3,g4,g5⟩:=kZ.sl.get;have G1:=QQ g1;have G5:=QQ g5;have hn5:n5<=200:=by rw[<-g1,HN.out];exact hl
 have kG:=Uw.set j (.slice a5 n5 c5);have TQ:=(QW J9 (by omega) hb5).setCell (p:=⟨w2.heap.size,j,none⟩) (by show w.heap.size<=w2.heap.size;omega) (.slice a5 n5 c5);have hd7:=(QW Jw (by omega) hb5).setCell (p:=⟨w2.heap.size,j,none⟩) (QU _) (.slice a5 n5 c5);have pE:w4.heap.size<=(w5.setCell ⟨w2.heap.size,j,none⟩ (.slice a5 n5 c5)).heap.size:=by rw[size_setCell];exact hb5.size
 have hU7:(us.set j (.slice a5 n5 c5)).length=27:=by rw[Zm,DN.out]
 have HU7:=QQ hU7;have su:=(Yu.below hb5 (by omega)).other (a:=⟨w2.heap.size,j,none⟩) (by simp;omega) (.slice a5 n5 c5);clear g1 g5 Uw hU7;go_wp2_with (first|((go_at_call 43);refine(Ql a5 n5 c5 t _ g4 G1.out (by omega) G5.out).mono ?_;rintro e w8 ⟨v8,rfl,WG,ZU⟩;obtain⟨a8,n8,c8,rfl⟩:=WG.form;have JR:=kG.below ZU kG.lt;have f8:=JR.free 0;have e8:=JR.cell (i:=0) (by rw[HU7.out];omega);have Kk:=JR.set 0 (.slice a8 n8 c8);have HU9:=QQ (show((us.set j (.slice a5 n5 c5)).set 0 (.slice a8 n8 c8)).length=27 by rw[Zm,HU7.out]);have sj:=(su.below ZU (by omega)).other (a:=⟨w2.heap.size,0,none⟩) (by simp;omega) (.slice a8 n8 c8);have HS9:=QQ (LD DN.out ay.out j a5 n5 c5 a8 n8 c8))|(refine Jf rfl _ rfl w2.heap.size rfl _ _ Kk HU9.out ?_)|(refine JX rfl _ _ rfl (w.heap.size+1) rfl ((us.set j (.slice a5 n5 c5)).set 0 (.slice a8 n8 c8)) rfl Q9 _ sj XA HU9.out HS9.out ?_;intro Lx OQ Vh))
 have yM:=ZU.size;refine QV (Yc Tryz.results292 rfl (JE OQ HU9.out)) rfl ⟨_,rfl,LP DN.out H.out.lx hj (fun i hi hij=>?_) ?_ ?_,Vh.XW (by omega) ((QW TQ (by omega) ZU).setCell (by show w.heap.size<=w2.heap.size;omega) _)⟩
 ·exact(((HOW.out i hi).kept ((QW hd7 (by omega) ZU).setCell (p:=⟨w2.heap.size,0,none⟩) (QU _) _)).left Vh (by omega)).mono (by omega)
 ·exact(((kZ.kept ZU).setCell (by exact QZm) _).left Vh (by omega)).mono (by omega)
 ·exact((WG.setCell (by show w2.heap.size<_;omega) _).left Vh (by omega)).mono (by omega)
theorem uM(vs:List Value)(X:List (List Int))(name:Int)(j:Nat)(a:Option Addr)(n c:Nat)(t:List Int)(w:World)(h:Ah w vs X)(hX:∀i,i<27->(rx X i).length<=17592186044416)(hI:zH name=(j:Int))(hj:j<27)(hM:zG name=true)(hO:KD name=true)
  (ht:Ints w a t) (hn:t.length=n) (h0:a=none->n=0) (hl:n<=200) (hl2:(rx X j).length+n<=200):
  Calls Tryz.prog 292 #[.agg (ZT vs),.int .i64 name,.slice a n c] w (Um (xP X j (rx X j++t)) 0 w):=by
 obtain⟨a1,n1,c1,hv,hn1,hc1,hc2,hI1,h01⟩:=h.sl j hj;rw[hn1]at hl2;have H:=QQ h;have HX:=QQ hX;have HI:=QQ hI;have HM:=QQ hM;have HO:=QQ hO;have HN:=QQ hn;have HA:=QQ h0;have HV:=QQ hv;have HN1:=QQ hn1;clear h hX hI hM hO hn h0 hv h01 hI1 hn1;have hal:=Jm;have hB0:=(ZY.new w vs 36).alloc (.cells (ZT Q9) 36);have c0:=hB0.cell (i:=j) (by rw[H.out.lv];exact hj);rw[HV.out]at c0;have hB1:=ZY.new (w.alloc (.cells (ZT vs) 36)) Q9 36;rw[QJ]at hB1;have hacc:=QS w (.cells (ZT vs) 36) (.cells (ZT Q9) 36);have hsz:w.heap.size+2<=((w.alloc (.cells (ZT vs) 36)).alloc (.cells (ZT Q9) 36)).heap.size:=by simp
 have i0:(j:Int)<27:=by omega
 go_enter Tryz.func292,Tryz.ntmps292
 go_upto_region 1 with fail
 change Code.wp _ _ _ _ ((w.alloc (.cells (ZT vs) 36)).alloc (.cells (ZT Q9) 36));generalize(w.alloc (.cells (ZT vs) 36)).alloc (.cells (ZT Q9) 36)=w1 at *;go_wp2_with (first|(go_at_call 304;refine(JY _ _).mono ?_;rintro e w1 ⟨rfl,rfl⟩;rw[HO.out,HM.out,HI.out])|(refine Jf rfl _ rfl w.heap.size rfl vs _ hB0 H.out.lv ?_))
 refine(jP vs X _ (H.out.below hacc) HX.out).mono ?_;rintro e w2 ⟨us,rfl,MZ,hown,hsep,hb2⟩;have DN:=QQ MZ;have HOW:=QQ hown;have HSE:=QQ hsep;clear MZ hown hsep c0;have sI:=hB1.below hb2 hB1.lt;have hB2:=ZY.new w2 Q9 36;have Yk:=QW hacc (by omega) hb2;have JL:=Yk.alloc (by have:=hb2.size;omega) (.cells (ZT Q9) 36);have hz2:w1.heap.size<=w2.heap.size:=hb2.size;have Sc:iJ us:=fun i hi=>by
  exact QAN
 have E5:=sI.alloc (.cells (ZT Q9) 36);have ay:=QQ Sc;clear Sc;obtain⟨aj,nj,cj,eP⟩:=(HOW.out j hj).form;have HVJ:=QQ eP;clear eP;have hT:Ints w2 a t:=ht.below Yk;have hA2:=HA.out;have HL2:=QQ (show(rx X j).length+n<=17592186044416 by rw[HN1.out];omega);clear hA2;go_wp2_with (first|(at_builtin;refine tN rfl _ _ rfl w1.heap.size (.slice aj nj cj) (rx X j) t a n c rfl rfl kX hT4 HN.out HA.out HL2.out (by omega) ?_;intro v5 w5 hown5 ky;obtain⟨a5,n5,c5,rfl⟩:=hown5.form;have Uw:=hB4.grown ky (kX.ZA hB4 (by decide));have QUK:=Yu.grown ky (kX.ZA Yu (by decide));have f6:=Uw.free j;have c6:=Uw.cell (i:=j) (by rw[DN.out];exact hj))|(refine JX rfl _ _ rfl w2.heap.size rfl us rfl Q9 _ hB2 XA DN.out ay.out ?_;intro w4 hB4 hL4;have Av:=hL4.size;rw[QJ]at Av;have Yu:=hL4.QYK (by omega) E5;have Jw:=hL4.XW (QU _) (QC w2 (.cells (ZT Q9) 36));have J9:=hL4.XW (by omega) JL;have kX:=(HOW.out j hj).kept Jw;have c4:=hB4.cell (i:=j) (by rw[DN.out];exact hj);have f4:=hB4.free j;rw[HVJ.out]at kX c4;have hT4:=ht.below J9;clear hL4 JL E5 hB2))
 have kZ:=hown5.other (a:=⟨w2.heap.size,j,none⟩) (hown5.ZA Uw (by decide)) (.slice a5 n5 c5);obtain⟨g1,g2,g3,g4,g5⟩:=kZ.sl.get;have G1:=QQ g1;have G5:=QQ g5;have hn5:n5<=200:=by rw[<-g1,QE,HN.out,HN1.out];exact hl2
 have kG:=Uw.set j (.slice a5 n5 c5);have QXH:=J9.grown ky (by omega) (fun k hk=>by have:=kX.row k hk;omega);have TQ:=QXH.setCell (p:=⟨w2.heap.size,j,none⟩) (by show w.heap.size<=w2.heap.size;omega) (.slice a5 n5 c5);have pE:w4.heap.size<=(w5.setCell ⟨w2.heap.size,j,none⟩ (.slice a5 n5 c5)).heap.size:=by rw[size_setCell];exact ky.size
 have hU7:(us.set j (.slice a5 n5 c5)).length=27:=by rw[Zm,DN.out]
 have HU7:=QQ hU7;have su:=QUK.other (a:=⟨w2.heap.size,j,none⟩) (by simp;omega) (.slice a5 n5 c5);have HO7:=QQ (show∀i,i<27->i≠j->Own 3 w1.heap.size (w5.setCell ⟨w2.heap.size,j,none⟩ (.slice a5 n5 c5)) (vx us i) (rx X i)from fun i hi hij=>by
  have h1:=(HOW.out i hi).kept Jw;have hs:Sep (vx us i) (.slice aj nj cj):=by
   rw[<-HVJ.out];rcases Nat.lt_or_gt_of_ne hij with h|h
   ·exact HSE.out i j h hj
   ·exact(HSE.out j i h hi).symm
  have h2:=h1.grown ky hs;exact Uw.put h2 (by decide) _ _)
 clear g1 g5 hU7 c4 f4;go_wp2_with (first|((go_at_call 43);refine(Ql a5 n5 c5 (rx X j++t) _ g4 G1.out (by omega) G5.out).mono ?_;rintro e w8 ⟨v8,rfl,WG,ZU⟩;obtain⟨a8,n8,c8,rfl⟩:=WG.form;have JR:=kG.below ZU kG.lt;have f8:=JR.free 0;have e8:=JR.cell (i:=0) (by rw[HU7.out];omega);have Kk:=JR.set 0 (.slice a8 n8 c8);have HU9:=QQ (show((us.set j (.slice a5 n5 c5)).set 0 (.slice a8 n8 c8)).length=27 by rw[Zm,HU7.out]);have sj:=(su.below ZU (by omega)).other (a:=⟨w2.heap.size,0,none⟩) (by simp;omega) (.slice a8 n8 c8);have HS9:=QQ (LD DN.out ay.out j a5 n5 c5 a8 n8 c8))|(refine Jf rfl _ rfl w2.heap.size rfl _ _ Kk HU9.out ?_)|(refine JX rfl _ _ rfl (w.heap.size+1) rfl ((us.set j (.slice a5 n5 c5)).set 0 (.slice a8 n8 c8)) rfl Q9 _ sj XA HU9.out HS9.out ?_;intro Lx OQ Vh))
 have yM:=ZU.size;refine QV (Yc Tryz.results292 rfl (JE OQ HU9.out)) rfl ⟨_,rfl,LP DN.out H.out.lx hj (fun i hi hij=>?_) ?_ ?_,Vh.XW (by omega) ((QW TQ (by omega) ZU).setCell (by show w.heap.size<=w2.heap.size;omega) _)⟩
 ·have h1:=(HO7.out i hi hij).kept ZU
  exact((JR.put h1 (by decide) _ _).left Vh (by omega)).mono (by omega)
 ·have h1:=kZ.kept ZU
  exact((JR.put h1 (by decide) _ _).left Vh (by omega)).mono (by omega)
 ·exact((JR.put WG (by decide) _ _).left Vh (by omega)).mono (by omega)
theorem RB(vs:List Value)(X:List (List Int))(name:Int)(a:Option Addr)(n c:Nat)(t:List Int)(w:World)(h:Ah w vs X)(hX:∀i,i<27->(rx X i).length<=1048576)
  (ht:Ints w a t) (hn:t.length=n) (h0:a=none->n=0) (hl:n<=1048576):
  Calls Tryz.prog 292 #[.agg (ZT vs),.int .i64 name,.slice a n c] w (Um (YF X name t) (Y0 X name t) w):=by
 have hX':∀i,i<27->(rx X i).length<=17592186044416:=fun i hi=>by have:=hX i hi;omega
 cases hO:KD name
 ·rw[(Ld hO).1,(Ld hO).2]
  exact BR vs X name _ w hO
 ·obtain⟨j1,j2,j3⟩:=BS hO
  cases hM:zG name
  ·rw[(Lb hO hM).1,(Lb hO hM).2,hn]
   by_cases h2:200<n
   ·rw[if_pos h2,if_pos h2]
    exact VR vs X name _ false a n c w h j2 j1 hM hO (.inl h2) (by omega)
   ·rw[if_neg h2,if_neg h2]
    exact BP vs X name _ a n c t w h hX' j2 j1 hM hO ht hn h0 (by omega)
  ·rw[(EE hO hM).1,(EE hO hM).2,hn]
   by_cases h2:200<(rx X (Uc name)).length+n
   ·rw[if_pos h2,if_pos h2]
    exact VR vs X name _ true a n c w h j2 j1 hM hO (by by_cases h3:200<n;exact .inl h3;exact .inr ⟨rfl,by omega,h2⟩) (by omega)
   ·rw[if_neg h2,if_neg h2]
    exact uM vs X name _ a n c t w h hX' j2 j1 hM hO ht hn h0 (by omega) (by omega)
structure Sp where
 f:Int
 t:Int
 x:List Int
def sp(es:List Sp)(i:Nat):Sp:=es.getD i ⟨0,0,[]⟩
def VD(a:Option Addr)(c k:Nat):Option Addr:=if c=k then a else a.map (·.add (k*1))
theorem KO{a:Option Addr}{c k:Nat}(h:VD a c k=none):a=none:=by
 unfold VD at h;split at h
 ·exact h
 ·cases a<;>simp_all
theorem Ints.uQ{w:World}{a:Option Addr}{xs:List Int}{c:Nat}(h:Ints w a xs)(lo hi:Nat)(hc:xs.length<=c)(hl:lo<=hi)(hh:hi<=xs.length):Ints w (VD a c lo) ((xs.take hi).drop lo):=by
 unfold VD;by_cases hk:c=lo
 ·refine .inl ?_
  rw[List.drop_eq_nil_iff,QT];omega
 ·rw[if_neg hk]
  rcases a with _|ad
  ·rcases h with rfl|⟨b,o,ha,_⟩
   ·exact .inl (by simp)
   ·simp at ha
  ·simp only[Nat.mul_one,Option.map_some]
   exact(h.take hi).mE lo
theorem Ints.TT{w:World}{a:Option Addr}{xs:List Int}{c:Nat}(h:Ints w a xs)(lo:Nat)(hc:xs.length<=c)(hl:lo<=xs.length):Ints w (VD a c lo) (xs.drop lo):=by
 have:=h.uQ lo xs.length hc hl (QU _)
 rwa[List.take_length]at this
theorem Wq(a:Option Addr)(n c lo hi:Nat)(h1:lo<=hi)(h2:hi<=c)(w:World):
  (Instr.slice 26 (.slice a n c) (some (.int .i64 (lo:Int))) (some (.int .i64 (hi:Int))) none).run Tryz.prog w=.ok (.slice (VD a c lo) (hi-lo) (c-lo)) w:=by
 obtain⟨i0,hi0,hz0,hz1,hz2⟩:=ZF Yq;have b1:(0:Int)<=(lo:Int)/\(lo:Int)<=(hi:Int):=by omega
 have b2:(0:Int)<=(hi:Int)/\(hi:Int)<=(c:Int):=by omega
 simp[Instr.slice,Instr.sliceBounds,Instr.sliceBound,asIntOf,XP Tryz.underlying26,sizeOf,typeInfo,hi0,hz1,b1,b2,go_sem,VD,h1,h2]
theorem xH(a:Option Addr)(n c lo:Nat)(h1:lo<=n)(w:World):
  (Instr.slice 26 (.slice a n c) (some (.int .i64 (lo:Int))) none none).run Tryz.prog w=.ok (.slice (VD a c lo) (n-lo) (c-lo)) w:=by
 obtain⟨i0,hi0,hz0,hz1,hz2⟩:=ZF Yq;have b1:(0:Int)<=(lo:Int)/\(lo:Int)<=(n:Int):=by omega
 simp[Instr.slice,Instr.sliceBounds,Instr.sliceBound,asIntOf,XP Tryz.underlying26,sizeOf,typeInfo,hi0,hz1,b1,go_sem,VD,h1]
theorem Ww(a:Option Addr)(n c hi:Nat)(h2:hi<=c)(w:World):
  (Instr.slice 26 (.slice a n c) none (some (.int .i64 (hi:Int))) none).run Tryz.prog w=.ok (.slice a hi c) w:=by
 obtain⟨i0,hi0,hz0,hz1,hz2⟩:=ZF Yq;have b2:(0:Int)<=(hi:Int)/\(hi:Int)<=(c:Int):=by omega
 simp[Instr.slice,Instr.sliceBounds,Instr.sliceBound,asIntOf,XP Tryz.underlying26,sizeOf,typeInfo,hi0,hz1,b2,go_sem,h2]
inductive Oo {α β:Type} (R:α->β->Prop):List α->List β->Prop
 | nil:Oo R [] []
 | cons {a:α} {b:β} {l:List α} {m:List β} (h:R a b) (t:Oo R l m):Oo R (a::l) (b::m)
structure SV where
 f:Int
 t:Int
 a:Option Addr
 n:Nat
 c:Nat
def SV.cells(s:SV):List Value:=[.int .i64 s.f,.int .i64 s.t,.slice s.a s.n s.c]
def SV.is(w:World)(base:Nat)(s:SV)(p:Sp):Prop:=s.f=p.f/\s.t=p.t/\Own 3 base w (.slice s.a s.n s.c) p.x
def Kz(base:Nat)(w:World)(v:Value)(us:List SV)(es:List Sp):Prop:=
 w.ownsRow base 337 3 v es.length (us.flatMap SV.cells)/\Oo (SV.is w base) us es
theorem SV.is.imp{w w':World}{base base':Nat}{s:SV}{p:Sp}(h:SV.is w base s p)(hk:Own 3 base w (.slice s.a s.n s.c) p.x->Own 3 base' w' (.slice s.a s.n s.c) p.x):SV.is w' base' s p:=⟨h.1,h.2.1,hk h.2.2⟩
theorem UU{α β:Type}{R S:α->β->Prop}{l:List α}{m:List β}(h:Oo R l m)(hi:∀a b,R a b->S a b):Oo S l m:=by
 induction h with
 | nil=>exact .nil
 | cons h _ ih=>exact .cons (hi _ _ h) ih
theorem Kz.nil(base:Nat)(w:World):Kz base w (.slice none 0 0) [] []:=⟨Xv _ _ _ _,.nil⟩
theorem Kz.mono{base base':Nat}{w:World}{v:Value}{us:List SV}{es:List Sp}(h:Kz base w v us es)(hb:base'<=base):Kz base' w v us es:=by
 refine⟨⟨h.1.1,?_⟩,UU h.2 fun _ _ hh=>hh.imp fun k=>k.mono hb⟩;rcases h.1.2 with hn|⟨g,cap,cur,rfl,hb',rest⟩
 ·exact .inl hn
 ·exact .inr ⟨g,cap,cur,rfl,by omega,rest⟩
theorem Kz.kept{base:Nat}{w w':World}{v:Value}{us:List SV}{es:List Sp}(h:Kz base w v us es)(hb:Below w.heap.size w w'):Kz base w' v us es:=by
 refine⟨⟨h.1.1,?_⟩,UU h.2 fun _ _ hh=>hh.imp fun k=>k.kept hb⟩;rcases h.1.2 with hn|⟨g,cap,cur,rfl,hb',hgg,rest⟩
 ·exact .inl hn
 ·exact .inr ⟨g,cap,cur,rfl,hb',by rw[hb.block g (Array.getElem?_eq_some_iff.1 hgg).1];exact hgg,rest⟩
theorem Kz.form{base:Nat}{w:World}{v:Value}{us:List SV}{es:List Sp}(h:Kz base w v us es):∃a c,v=.slice a es.length c/\es.length<=c/\c<=9223372036854775807/\(a=none->es.length=0):=by
 rcases h.1.2 with⟨rfl,h0⟩|⟨g,cap,cur,rfl,hb',hgg,hn,hm,rest⟩
 ·exact⟨none,0,by rw[h0],by omega,by omega,fun _=>h0⟩
 ·exact⟨_,cap,rfl,hn,by unfold maxLen at hm;omega,by simp⟩
end Go.Proofs.YtmdcencmiopmmaaGreat
