/- joined, no condition of its own. -/
import Derived.Test.YtmdcencmiopmmaaGreatJnT
import Derived.Test.YtmdcencmiopmmaaGreatJnJ1
import Derived.Test.YtmdcencmiopmmaaGreatJnJ19
set_option linter.unusedVariables false
set_option linter.unusedSimpArgs false
set_option maxRecDepth 100000
set_option maxHeartbeats 12000000
namespace Go.Proofs.YtmdcencmiopmmaaGreat
open Go.RowKit
theorem bT{W w1 w2:World}{a0 a1 a2:Addr}{u0 u1 u2:Value}(h:w1.cell? a0=some u0/\w1.cell? a1=some u1/\w1.cell? a2=some u2/\Below W.heap.size W w1)(hb:Below w1.heap.size w1 w2):w2.cell? a0=some u0/\w2.cell? a1=some u1/\w2.cell? a2=some u2/\Below W.heap.size W w2:=by
 obtain⟨h0,h1,h2,hW⟩:=h;exact⟨ZL hb _ _ h0,ZL hb _ _ h1,ZL hb _ _ h2,ZE hW hW.size hb⟩
theorem bP{W w1 w2:World}{a0 a1 a2:Addr}{u0 u1 u2:Value}{row:Option Nat}(h:w1.cell? a0=some u0/\w1.cell? a1=some u1/\w1.cell? a2=some u2/\Below W.heap.size W w1)(hg:w1.grownBy w2 row)(hr:∀k,row=some k->W.heap.size<=k)(n0:a0.block<W.heap.size)(n1:a1.block<W.heap.size)(n2:a2.block<W.heap.size):w2.cell? a0=some u0/\w2.cell? a1=some u1/\w2.cell? a2=some u2/\Below W.heap.size W w2:=by
 obtain⟨h0,h1,h2,hW⟩:=h;have hb:Below W.heap.size W w2:=hW.grown hg hW.size hr;exact⟨by rw[hb.cell n0,<-hW.cell n0];exact h0,by rw[hb.cell n1,<-hW.cell n1];exact h1,by rw[hb.cell n2,<-hW.cell n2];exact h2,hb⟩
structure Hi where
 ls:List (List Int)
 most:Int
 Zi:Int
 XQ:List Int
 pat:List Int
 older:Bool
def X3(lv:Value)(most Zi:Int)(sv pv:Value)(older:Bool):Array Value:=#[lv,.int .i64 most,.int .i64 Zi,sv,pv,.bool older]
structure WB (w:World) (lv:Value) (most Zi:Int) (sv pv:Value) (older:Bool) (h:Hi):Prop where
 ls:∃vs,Vs w lv vs/\Lists w vs h.ls
 most:most=h.most
 Zi:Zi=h.Zi
 XQ:Sl w sv h.XQ
 pat:Sl w pv h.pat
 older:older=h.older
theorem WB.keep{w w':World}{lv:Value}{most Zi:Int}{sv pv:Value}{older:Bool}{h:Hi}(r:WB w lv most Zi sv pv older h)(hc:∀p v,w.cell? p=some v->w'.cell? p=some v):WB w' lv most Zi sv pv older h:=by
 obtain⟨vs,h1,h2⟩:=r.ls;exact⟨⟨vs,h1.keep hc,h2.keep hc⟩,r.most,r.Zi,r.XQ.keep hc,r.pat.keep hc,r.older⟩
theorem WB.below{w w':World}{lv:Value}{most Zi:Int}{sv pv:Value}{older:Bool}{h:Hi}(r:WB w lv most Zi sv pv older h)(hb:Below w.heap.size w w'):WB w' lv most Zi sv pv older h:=r.keep (ZL hb)
def Kg(l:List Int):Bool:=decide (200<l.length)
def xC(h:Hi):Int:=
 if h.most<1\/50<h.most\/h.most<h.ls.length\/h.Zi<0\/(h.ls.length:Int)<h.Zi then 1
 else if h.ls.any Kg || Kg h.XQ || Kg h.pat then 2 else 0
theorem Za.six{w:World}{B:Nat}{u0 u1 u2 u3 u4 u5:Value}{e:TypeId}(h:Za w B #[u0,u1,u2,u3,u4,u5] e):w.cell? ⟨B,0,none⟩=some u0/\w.cell? ⟨B,1,none⟩=some u1/\w.cell? ⟨B,2,none⟩=some u2/\w.cell? ⟨B,3,none⟩=some u3/\w.cell? ⟨B,4,none⟩=some u4/\w.cell? ⟨B,5,none⟩=some u5:=⟨h.cell 0,h.cell 1,h.cell 2,h.cell 3,h.cell 4,h.cell 5⟩
theorem QKn{α:Type}(p:α->Bool)(l:List α)(a b:α):(l++[a,b]).any p=(l.any p || p a || p b):=by simp[List.any_append,Bool.or_assoc]
theorem Mj{X:List (List Int)}{i:Nat}(h:i<X.length):rx X i∈X:=by rw[vU h];exact YK h
theorem Vz(lv:Value)(most Zi:Int)(sv pv:Value)(older:Bool)(h:Hi)(w:World)(r:WB w lv most Zi sv pv older h):
  Calls Tryz.prog 194 #[.agg (X3 lv most Zi sv pv older)] w fun e w'=>e=.returned (.int .i64 (xC h))/\Below w.heap.size w w':=by
 obtain⟨⟨vs,hvs,hls⟩,rfl,rfl,Xl,Xm,rfl⟩:=r;obtain⟨la,ln,lc,rfl,hl1,hl2,hl3,hl4,hl5⟩:=hvs;obtain⟨sa,sn,sc,rfl,hs1,hs2,hs3,hs4,hs5⟩:=Xl;obtain⟨pa,pn,pc,rfl,hp1,hp2,hp3,xQ,Uv⟩:=Xm;have hll:h.ls.length=ln:=Qq;unfold X3;have hB:=Za.new w #[.slice la ln lc,.int .i64 h.most,.int .i64 h.Zi,.slice sa sn sc,.slice pa pn pc,.bool h.older] 65;obtain⟨c0,c1,c2,c3,c4,c5⟩:=hB.six;have hacc:=ZT w (.cells #[.slice la ln lc,.int .i64 h.most,.int .i64 h.Zi,.slice sa sn sc,.slice pa pn pc,.bool h.older] 65);have hE1:xC h=if h.most<1\/50<h.most\/h.most<ln\/h.Zi<0\/(ln:Int)<h.Zi then 1 else if h.ls.any Kg || Kg h.XQ || Kg h.pat then 2 else 0:=by rw[xC,hll]
 by_cases hbad:h.most<1\/50<h.most\/h.most<ln\/h.Zi<0\/(ln:Int)<h.Zi
 ·rw[hE1,if_pos hbad]
  have hd:h.most<1\/(1<=h.most/\50<h.most)\/(1<=h.most/\h.most<=50/\h.most<ln)\/(1<=h.most/\h.most<=50/\(ln:Int)<=h.most/\h.Zi<0)\/(1<=h.most/\h.most<=50/\(ln:Int)<=h.most/\0<=h.Zi/\(ln:Int)<h.Zi):=QQ;clear hE1 hbad hl1 hs1 hp1 hl5 hs5 Uv hll;generalize h.most=M at *;generalize h.Zi=W at *;rcases hd with h1|⟨h1,h2⟩|⟨h1,h2,h3⟩|⟨h1,h2,h3,h4⟩|⟨h1,h2,h3,h4,h5⟩
  all_goals
   go_enter Tryz.func194,Tryz.ntmps194
   go_wp2;exact QFe
 ·rw[if_neg hbad]at hE1
  have hd:1<=h.most/\h.most<=50/\(ln:Int)<=h.most/\0<=h.Zi/\h.Zi<=(ln:Int):=QQ;obtain⟨g1,g2,g3,g4,g5⟩:=hd;have hln:ln<=50:=QQ;have QWy:ln<=4398046511104:=QQ;have HE:=Zy hE1;have HL:=Zy hl1;have BU:=Zy hs1;have pg:=Zy hp1;have HL5:=Zy hl5;have Ur:=Zy hll;have HSL:=Zy hls.sls;have HSC:=Zy (show Sl ((w.alloc (.cells #[.slice la ln lc,.int .i64 h.most,.int .i64 h.Zi,.slice sa sn sc,.slice pa pn pc,.bool h.older] 65))) (.slice sa sn sc) h.XQ from Sl.below (w:=w) ⟨sa,sn,sc,rfl,hs1,hs2,hs3,hs4,hs5⟩ hacc);have HPC:=Zy (show Sl ((w.alloc (.cells #[.slice la ln lc,.int .i64 h.most,.int .i64 h.Zi,.slice sa sn sc,.slice pa pn pc,.bool h.older] 65))) (.slice pa pn pc) h.pat from Sl.below (w:=w) ⟨pa,pn,pc,rfl,hp1,hp2,hp3,xQ,Uv⟩ hacc);have FP:=Zy (hls.below hacc);clear hE1 hbad hl1 hs1 hp1 hl5 hll;have QWj:=hl4.below hacc;have hsz:w.heap.size<(w.alloc (.cells #[.slice la ln lc,.int .i64 h.most,.int .i64 h.Zi,.slice sa sn sc,.slice pa pn pc,.bool h.older] 65)).heap.size:=QJ;generalize h.most=M at *;generalize h.Zi=W at *;go_enter Tryz.func194,Tryz.ntmps194
  go_upto_region 1 with fail
  change Code.wp _ _ _ _ (w.alloc (.cells #[.slice la ln lc,.int .i64 M,.int .i64 W,.slice sa sn sc,.slice pa pn pc,.bool h.older] 65));generalize(w.alloc (.cells #[.slice la ln lc,.int .i64 M,.int .i64 W,.slice sa sn sc,.slice pa pn pc,.bool h.older] 65))=w1 at *;go_wp2;have hVL:∀u:World,J7 (u.alloc (.cells #[.slice sa sn sc,.slice pa pn pc] 26)) (some ⟨u.heap.size,0,none⟩) [.slice sa sn sc,.slice pa pn pc]:=fun u=>JE u [.slice sa sn sc,.slice pa pn pc] _
  have Sv:=Zy hVL;have HS2:=Zy (show Ip [.slice sa sn sc,.slice pa pn pc]from fun i hi=>by
   rcases(show i=0\/i=1 from Qa)with rfl|rfl
   ·exact⟨sa,sn,sc,rfl⟩
   ·exact⟨pa,pn,pc,rfl⟩)
  have HLV:=Zy (show vs.length+2<=4398046511104 from QBP);clear hVL
  go_region_held3 (fun w'=>w'.cell? ⟨w.heap.size,0,none⟩=some (.slice la ln lc)/\w'.cell? ⟨w.heap.size,3,none⟩=some (.slice sa sn sc)/\w'.cell? ⟨w.heap.size,4,none⟩=some (.slice pa pn pc)/\Below w1.heap.size w1 w') (first|exact⟨c0,c3,c4,(ZH _ _).drew⟩|assumption|exact bT ‹_› (ZT _ _)|exact bT ‹_› ‹_›)
   (first|(refine zK QAQ _ _ rfl _ (.slice a2 n2 c2) vs [.slice sa sn sc,.slice pa pn pc] _ 2 2 rfl rfl (vN.alloc _) (Sv.out _) HS2.out rfl HLV.out (Below.size (XO (XO (XO ‹_›)))) ?_;intro v9 w9 o9 Xe;have ny:=bP ‹_› Xe vN.row hsz hsz hsz;obtain⟨a9,n9,c9,rfl⟩:=o9.form)|(refine zK QAQ _ _ rfl _ (.slice a2 n2 c2) vs [.slice sa sn sc,.slice pa pn pc] _ 2 2 rfl rfl vN ((J7.drew (Sv.out _)).below hb2) HS2.out rfl HLV.out (Below.size (XO (XO (XO ‹_›)))) ?_;intro v9 w9 o9 Xe;have ny:=bP ‹_› Xe vN.row hsz hsz hsz;obtain⟨a9,n9,c9,rfl⟩:=o9.form)|(go_at_call 160;((with_reducible refine(kz w1.heap.size la ln lc vs _ (QWj.below (XO (XO (XO ‹_›)))) (Below.size (XO (XO (XO ‹_›)))) HSL.out HL.out QWy HL5.out).mono ?_);rintro e w2 ⟨v2,rfl,vN,hb2⟩;obtain⟨a2,n2,c2,rfl⟩:=vN.form)))
  all_goals
   have hS:Below w1.heap.size w1 w9:=XO (XO (XO ny));have hLi:Lists w9 (vs++[.slice sa sn sc,.slice pa pn pc]) (h.ls++[h.XQ,h.pat]):=(FP.out.below hS).append ((Lists.one (HSC.out.below hS)).append (Lists.one (HPC.out.below hS)));obtain⟨z1,z2,z3,z4,z5⟩:=o9.vs.get;have HLI:=Zy hLi;have HZ:=Zy z1;have hn9:n9<=52:=by rw[<-z1,Zd,HL.out];simp;omega
   have HNX:=Zy (show(h.ls++[h.XQ,h.pat]).length=n9 by rw[<-hLi.len];exact z1);have hbb:=ZE hacc (Xr hsz) hS;clear hLi z1 z5 ny;go_wp2
   go_loop [44] (fun iv=>∃k:Nat,iv=.int .i64 (k:Int)/\k<=n9/\∀j,j<k->Kg (rx (h.ls++[h.XQ,h.pat]) j)=false) (fun iv=>n9-(intOf iv).toNat)
   case atStart=>exact⟨0,rfl,QQ,fun j hj=>QQ⟩
   case round=>
    obtain⟨k,rfl,hk,hno⟩:=hrel;have HO:=Zy hno;clear hno;by_cases hlt:k<n9
    ·obtain⟨b1,o1,rfl,hc⟩:=z4.at (k:=k) (by rw[HZ.out];exact hlt)
     have e1:=hc k (by rw[HZ.out];exact hlt);obtain⟨xa,xn,xc,x1,x2,x3,x4,x5,x6⟩:=HLI.out.sl k (by rw[HNX.out];exact hlt);rw[x1]at e1;have HX:=Zy x2;clear hc z4 x1 x2 x6;by_cases hlong:200<xn
     ·have HR:=Zy (show xC h=2 by
       rw[HE.out];have hh:(h.ls++[h.XQ,h.pat]).any Kg=true:=by
        rw[List.any_eq_true];exact⟨_,Mj (by rw[HNX.out];exact hlt),by simp[Kg,HX.out,hlong]⟩
       rw[QKn]at hh;rw[if_pos hh])
      go_wp2;go_ret;exact⟨XA HR.out.symm,hbb⟩
     ·have HN:=Zy (show Kg (rx (h.ls++[h.XQ,h.pat]) k)=false by simp[Kg,HX.out];omega)
      go_wp2
      go_round
      case rel=>exact⟨k+1,Qk,QQ,fun j hj=>by
       rcases XK.1 hj with h|rfl
       ·exact HO.out j h
       ·exact HN.out⟩
      case measure=>simp[intOf];omega
    ·obtain rfl:k=n9:=by omega
     have HR:=Zy (show xC h=0 by
      rw[HE.out];have hh:(h.ls++[h.XQ,h.pat]).any Kg=false:=by
       rw[List.any_eq_false];intro x hx;obtain⟨j,hj,rfl⟩:=Xw.1 hx;have:=HO.out j (by rw[HNX.out]at hj;exact hj);rw[vU hj]at this;simpa using this
      rw[QKn]at hh;rw[if_neg (by simp[hh])])
     go_wp2;go_ret;exact⟨XA HR.out.symm,hbb⟩
def UE(base:Nat)(w:World)(vs:List Value)(X:List (List Int)):Prop:=vs.length=X.length/\∀i,i<X.length->Own 3 base w (vx vs i) (rx X i)
theorem UE.imp{base base':Nat}{w w':World}{vs:List Value}{X:List (List Int)}(h:UE base w vs X)(hk:∀v xs,Own 3 base w v xs->Own 3 base' w' v xs):UE base' w' vs X:=⟨h.1,fun i hi=>hk _ _ (h.2 i hi)⟩
theorem UE.snoc{base:Nat}{w:World}{vs:List Value}{X:List (List Int)}{v:Value}{xs:List Int}(h:UE base w vs X)(hv:Own 3 base w v xs):UE base w (vs++[v]) (X++[xs]):=by
 refine⟨QBd,fun i hi=>?_⟩;by_cases hl:i<X.length
 ·rw[DC (by rw[h.1];exact hl),Dw hl];exact h.2 i hl
 ·obtain rfl:i=X.length:=by simp at hi;omega
  have h1:=vK (X:=X) (Y:=[xs]) (i:=0);have h2:=uM (vs:=vs) (us:=[v]) (i:=0);rw[h.1]at h2;rw[X8]at h1 h2;rw[h1,h2];exact hv
theorem UE.nil(base:Nat)(w:World):UE base w [] []:=⟨rfl,fun i hi=>by simp at hi⟩
def gz(h:Hi)(w:World)(e:Ending)(w':World):Prop:=
 ∃lv sv pv vs,e=.returned (.agg (X3 lv h.most h.Zi sv pv h.older))/\XT 26 w.heap.size w' lv vs/\UE w.heap.size w' vs h.ls/\Own 3 w.heap.size w' sv h.XQ/\Own 3 w.heap.size w' pv h.pat/\Below w.heap.size w w'
theorem Za.Yy{w:World}{B:Nat}{u0 u1 u2 u3 u4 u5:Value}{e:TypeId}(h:Za w B #[u0,u1,u2,u3,u4,u5] e):w.frozen? ⟨B,0,none⟩=false/\w.frozen? ⟨B,1,none⟩=false/\w.frozen? ⟨B,2,none⟩=false/\w.frozen? ⟨B,3,none⟩=false/\w.frozen? ⟨B,4,none⟩=false/\w.frozen? ⟨B,5,none⟩=false:=⟨h.free 0,h.free 1,h.free 2,h.free 3,h.free 4,h.free 5⟩
theorem Ki(lv:Value)(most Zi:Int)(sv pv:Value)(older:Bool)(h:Hi)(w:World)(r:WB w lv most Zi sv pv older h)(QZD:h.ls.length<=50)(dZ:∀i,i<h.ls.length->(rx h.ls i).length<=200)(yK:h.XQ.length<=200)(QJg:h.pat.length<=200):
  Calls Tryz.prog 195 #[.agg (X3 lv most Zi sv pv older)] w (gz h w):=by
 obtain⟨⟨vs,hvs,hls⟩,rfl,rfl,Xl,Xm,rfl⟩:=r;obtain⟨la,ln,lc,rfl,hl1,hl2,hl3,hl4,hl5⟩:=hvs;obtain⟨sa,sn,sc,rfl,hs1,hs2,hs3,hs4,hs5⟩:=Xl;obtain⟨pa,pn,pc,rfl,hp1,hp2,hp3,xQ,Uv⟩:=Xm;have hll:h.ls.length=ln:=Qq;have hln:ln<=50:=QQ;have hsn:sn<=200:=QQ;have hpn:pn<=200:=QQ;unfold X3;have HC:=Zy (show gz h w=gz ⟨h.ls,h.most,h.Zi,h.XQ,h.pat,h.older⟩ w from rfl);have hB:=(Za.new w #[.slice la ln lc,.int .i64 h.most,.int .i64 h.Zi,.slice sa sn sc,.slice pa pn pc,.bool h.older] 65).alloc (.cells #[.slice none 0 0,.int .i64 0,.int .i64 0,.slice none 0 0,.slice none 0 0,.bool false] 65);have hR:=Za.new (w.alloc (.cells #[.slice la ln lc,.int .i64 h.most,.int .i64 h.Zi,.slice sa sn sc,.slice pa pn pc,.bool h.older] 65)) #[.slice none 0 0,.int .i64 0,.int .i64 0,.slice none 0 0,.slice none 0 0,.bool false] 65;rw[Zv]at hR;have hacc:=Zn w (.cells #[.slice la ln lc,.int .i64 h.most,.int .i64 h.Zi,.slice sa sn sc,.slice pa pn pc,.bool h.older] 65) (.cells #[.slice none 0 0,.int .i64 0,.int .i64 0,.slice none 0 0,.slice none 0 0,.bool false] 65);have hsz:w.heap.size+2<=((w.alloc (.cells #[.slice la ln lc,.int .i64 h.most,.int .i64 h.Zi,.slice sa sn sc,.slice pa pn pc,.bool h.older] 65)).alloc (.cells #[.slice none 0 0,.int .i64 0,.int .i64 0,.slice none 0 0,.slice none 0 0,.bool false] 65)).heap.size:=QJ;have HL:=Zy hl1;have BU:=Zy hs1;have pg:=Zy hp1;have LB:=Zy hs5;have HP5:=Zy Uv;have Ur:=Zy hll;have FP:=Zy hls;have QzW:=Zy dZ;clear hl1 hs1 hp1 hl5 hs5 Uv hll hls dZ QZD yK QJg;generalize h.most=M at *;generalize h.Zi=W at *;generalize h.older=O at *;go_enter Tryz.func195,Tryz.ntmps195
 go_upto_region 1 with fail
 change Code.wp _ _ _ _ ((w.alloc (.cells #[.slice la ln lc,.int .i64 M,.int .i64 W,.slice sa sn sc,.slice pa pn pc,.bool O] 65)).alloc (.cells #[.slice none 0 0,.int .i64 0,.int .i64 0,.slice none 0 0,.slice none 0 0,.bool false] 65));generalize((w.alloc (.cells #[.slice la ln lc,.int .i64 M,.int .i64 W,.slice sa sn sc,.slice pa pn pc,.bool O] 65)).alloc (.cells #[.slice none 0 0,.int .i64 0,.int .i64 0,.slice none 0 0,.slice none 0 0,.bool false] 65))=w1 at *;obtain⟨c0,c1,c2,c3,c4,c5⟩:=hB.six;obtain⟨f0,-⟩:=hB.Yy;go_wp2;have hB1:=hB.set 0 (.slice none 0 0);have M9:=hR.other (a:=⟨w.heap.size,0,none⟩) QJ (.slice none 0 0);have QKK:=hacc.setCell (p:=⟨w.heap.size,0,none⟩) (ZB _) (.slice none 0 0);have hsz1:w.heap.size+2<=(w1.setCell ⟨w.heap.size,0,none⟩ (.slice none 0 0)).heap.size:=by rw[size_setCell];exact hsz
 simp only[Zj,Zk]at hB1;clear hB hR hacc hsz c0 c1 c2 c3 c4 c5 f0
 go_loopw [11] (fun iv wr=>∃(k:Nat) (ra:Option Addr) (rn rc:Nat) (us:List Value),iv=.int .i64 (k:Int)/\k<=ln/\Za wr w.heap.size #[.slice ra rn rc,.int .i64 M,.int .i64 W,.slice sa sn sc,.slice pa pn pc,.bool O] 65/\Za wr (w.heap.size+1) #[.slice none 0 0,.int .i64 0,.int .i64 0,.slice none 0 0,.slice none 0 0,.bool false] 65/\
   XT 26 (w.heap.size+2) wr (.slice ra rn rc) us/\UE (w.heap.size+2) wr us (h.ls.take k)/\Below w.heap.size w wr/\w.heap.size+2<=wr.heap.size) (fun iv _=>ln-(intOf iv).toNat)
 case atStart=>exact⟨0,none,0,0,[],rfl,QQ,hB1,M9,XT.nil _ _ _,UE.nil _ _,QKK,hsz1⟩
 case round=>
  obtain⟨k,ra,rn,rc,us,rfl,hk,hB,hR,hown,hol,hbel,hsz⟩:=hrel;have Ng:=Zy hol;clear hol;obtain⟨c0,c1,c2,c3,c4,c5⟩:=hB.six;obtain⟨f0,f1,f2,f3,f4,f5⟩:=hB.Yy;by_cases hlt:k<ln
  ·obtain⟨b1,o1,rfl,hc⟩:=(hl4.below hbel).at (k:=k) QE
   have e1:=hc k QE;obtain⟨xa,xn,xc,x1,x2,x3,x4,x5,x6⟩:=(FP.out.below hbel).sl k QAj;rw[x1]at e1;have JK:xn<=17592186044416:=by have:=QzW.out k QAj;omega
   have pM:=Zy x2;have HX6:=Zy x6;have HU:=Zy (show us.length+1<=4398046511104 by rw[Ng.out.1,Zp];omega);clear hc x1 x2 x6;go_wp2;have Sv:=Zy (show∀(u:World) (x:Option Addr) (n c:Nat),J7 (u.alloc (.cells #[.slice x n c] 26)) (some ⟨u.heap.size,0,none⟩) [.slice x n c]from fun u x n c=>JE u [.slice x n c] _);have BU:=Zy (show∀(x:Option Addr) (n c:Nat),Ip [.slice x n c]from fun x n c i hi=>by
    obtain rfl:i=0:=Qa;exact⟨x,n,c,rfl⟩)
   have x5':=x5.drew
   go_region_law (first|(go_simp;go_at_call 43;refine(Zw xa xn xc _ wr.drew x5' pM.out JK HX6.out).mono ?_;rintro e w2 ⟨v2,rfl,vN,hb2⟩;obtain⟨a2,n2,c2,rfl⟩:=vN.form;have hB2:=hB.drew.below hb2 hB.lt;have d0:=hB2.cell 0;have hlt2:=hB2.lt;have ho2:=hown.drew.kept hb2;have hz2:w.heap.size+2<=w2.heap.size:=Zh hsz hb2.size;simp only[List.getElem?_toArray,List.getElem?_cons_zero]at d0)|(refine zK QAQ _ _ rfl _ (.slice ra rn rc) us [.slice a2 n2 c2] _ 1 1 rfl rfl (ho2.alloc _) (Sv.out _ _ _ _) (BU.out _ _ _) rfl HU.out (XG hz2 _) ?_;intro v9 w9 o9 Xe;obtain⟨a9,n9,c9,rfl⟩:=o9.form;have U0:=(hB2.alloc _).grown Xe (ho2.Xa hB2 QZ);have e0:=U0.cell 0;have g0:=U0.free 0;simp only[List.getElem?_toArray,List.getElem?_cons_zero]at e0))
   all_goals
    go_wp2;go_roundw
    case rel=>
     have RS:=U0.set 0 (.slice a9 n9 c9);simp only[Zj,Zk]at RS;have hR2:=(((hR.drew.below hb2 (by show w.heap.size+1<wr.heap.size;omega)).alloc _).grown Xe (ho2.ne QQ)).other (a:=⟨w.heap.size,0,none⟩) QJ (.slice a9 n9 c9);have JR:Below w.heap.size w w2:=ZE hbel.drew (by show w.heap.size<=wr.heap.size;omega) hb2;have QJG:=Xe.size;rw[Zv]at QJG;refine⟨k+1,a9,n9,c9,_,Qk,QQ,RS,hR2,o9.other (o9.Xa U0 QZ) _,?_,((JR.alloc QQ _).grown Xe QY (fun j hj=>by have:=ho2.row j hj;omega)).setCell (ZB _) _,by rw[size_setCell];omega⟩;rw[WG QAj];have hbase:w.heap.size+2<=wr.heap.size:=hsz;refine UE.snoc (Ng.out.imp fun v xs hv=>?_) ?_
     ·have h1:=((hv.drew.kept hb2).alloc (.cells #[.slice a2 n2 c2] 26)).beside (ho2.alloc _) QZ Xe
      exact h1.other (h1.Xa U0 QZ) _
     ·have h1:=((vN.mono (base':=w.heap.size+2) hbase).alloc (.cells #[.slice a2 n2 c2] 26)).beside (ho2.alloc _) QZ Xe
      exact h1.other (h1.Xa U0 QZ) _
    case measure=>simp[intOf];omega
  ·obtain rfl:k=ln:=by omega
   have hol:=Ng.out;rw[XV QAp]at hol;have BQ:=Zy hol;have QJR:=(hs4.below hbel).drew;have QJf:=(xQ.below hbel).drew;have cu:sn<=17592186044416:=QQ;have QJd:pn<=17592186044416:=QQ;clear hol hl4 hlt;go_wp2
   go_region_law (first|(go_simp;go_at_call 43;((with_reducible refine(Zw pa pn pc h.pat wS (QJf.below hbS) pg.out QJd HP5.out).mono ?_));rintro e w9 ⟨vP,rfl,bX,Jv⟩;obtain⟨aP,nP,cP,rfl⟩:=bX.form;have U0:=hBS.below Jv hBS.lt;obtain⟨e0,e1,e2,e3,e4,e5⟩:=U0.six;obtain⟨g0,g1,g2,g3,g4,g5⟩:=U0.Yy;have oS:=bZ.kept Jv;have oP:=bX.mono hbS.size;have dA:=ZE hbS hbS.size Jv)|(go_simp;go_at_call 43;((with_reducible refine(Zw sa sn sc h.XQ wP (QJR.below hbP) BU.out cu LB.out).mono ?_));rintro e w9 ⟨vS,rfl,bZ,Jv⟩;obtain⟨aS,nS,cS,rfl⟩:=bZ.form;have U0:=hBP.below Jv hBP.lt;obtain⟨e0,e1,e2,e3,e4,e5⟩:=U0.six;obtain⟨g0,g1,g2,g3,g4,g5⟩:=U0.Yy;have oS:=bZ.mono hbP.size;have oP:=bX.kept Jv;have dA:=ZE hbP hbP.size Jv)|(go_simp;go_at_call 43;((with_reducible refine(Zw sa sn sc h.XQ wr.drew QJR BU.out cu LB.out).mono ?_));rintro e wS ⟨vS,rfl,bZ,hbS⟩;obtain⟨aS,nS,cS,rfl⟩:=bZ.form;have hBS:=hB.drew.below hbS hB.lt;obtain⟨d0,d1,d2,d3,d4,d5⟩:=hBS.six;obtain⟨f0',f1',f2',f3',f4',f5'⟩:=hBS.Yy)|(go_simp;go_at_call 43;((with_reducible refine(Zw pa pn pc h.pat wr.drew QJf pg.out QJd HP5.out).mono ?_));rintro e wP ⟨vP,rfl,bX,hbP⟩;obtain⟨aP,nP,cP,rfl⟩:=bX.form;have hBP:=hB.drew.below hbP hB.lt;obtain⟨d0,d1,d2,d3,d4,d5⟩:=hBP.six;obtain⟨f0',f1',f2',f3',f4',f5'⟩:=hBP.Yy))
   all_goals
    have kM:=(U0.set 3 (.slice aS nS cS)).set 4 (.slice aP nP cP);simp only[Zj,Zk,Zu]at kM;obtain⟨q0,q1,q2,q3,q4,q5⟩:=kM.six;have BK:=hR.drew.below dA (by show w.heap.size+1<wr.heap.size;omega);have dF:=(BK.other (a:=⟨w.heap.size,3,none⟩) QJ (.slice aS nS cS)).other (a:=⟨w.heap.size,4,none⟩) QJ (.slice aP nP cP);obtain⟨p0,p1,p2,p3,p4,p5⟩:=dF.six;obtain⟨t0,t1,t2,t3,t4,t5⟩:=dF.Yy;go_wp2;have hG:=((((((dF.set 0 (.slice ra rn rc)).set 1 (.int .i64 M)).set 2 (.int .i64 W)).set 3 (.slice aS nS cS)).set 4 (.slice aP nP cP)).set 5 (.bool O));simp only[Zj,Zk,Zu]at hG;obtain⟨y0,y1,y2,y3,y4,y5⟩:=hG.six;have hz2:w.heap.size+2<=wr.drew.heap.size:=hsz;have yz:Below w.heap.size w w9:=ZE hbel.drew (by show w.heap.size<=wr.heap.size;omega) dA;refine ZC (v:=.agg (X3 (.slice ra rn rc) M W (.slice aS nS cS) (.slice aP nP cP) O)) (by simp[results,Tryz.results195,go_sem,y0,y1,y2,y3,y4,y5,X3]) rfl ?_;rw[HC.out];have kV:∀(v:Value) (us:List Value),XT 26 (w.heap.size+2) w9 v us->XT 26 w.heap.size ((((((((w9.setCell ⟨w.heap.size,3,none⟩ (.slice aS nS cS)).setCell ⟨w.heap.size,4,none⟩ (.slice aP nP cP)).setCell ⟨w.heap.size+1,0,none⟩ (.slice ra rn rc)).setCell ⟨w.heap.size+1,1,none⟩ (.int .i64 M)).setCell ⟨w.heap.size+1,2,none⟩ (.int .i64 W)).setCell ⟨w.heap.size+1,3,none⟩ (.slice aS nS cS)).setCell ⟨w.heap.size+1,4,none⟩ (.slice aP nP cP)).setCell ⟨w.heap.size+1,5,none⟩ (.bool O)) v us:=fun v us h=>((((((((h.setCell QJ _).setCell QJ _).setCell QJ _).setCell QJ _).setCell QJ _).setCell QJ _).setCell QJ _).setCell QJ _).mono QQ
    have kO:∀(v:Value) (xs:List Int),Own 3 (w.heap.size+2) w9 v xs->Own 3 w.heap.size ((((((((w9.setCell ⟨w.heap.size,3,none⟩ (.slice aS nS cS)).setCell ⟨w.heap.size,4,none⟩ (.slice aP nP cP)).setCell ⟨w.heap.size+1,0,none⟩ (.slice ra rn rc)).setCell ⟨w.heap.size+1,1,none⟩ (.int .i64 M)).setCell ⟨w.heap.size+1,2,none⟩ (.int .i64 W)).setCell ⟨w.heap.size+1,3,none⟩ (.slice aS nS cS)).setCell ⟨w.heap.size+1,4,none⟩ (.slice aP nP cP)).setCell ⟨w.heap.size+1,5,none⟩ (.bool O)) v xs:=fun v us h=>((((((((h.setCell QJ _).setCell QJ _).setCell QJ _).setCell QJ _).setCell QJ _).setCell QJ _).setCell QJ _).setCell QJ _).mono QQ
    refine⟨.slice ra rn rc,.slice aS nS cS,.slice aP nP cP,us,rfl,kV _ _ (hown.drew.kept dA),BQ.out.imp fun v xs hv=>kO _ _ (hv.drew.kept dA),kO _ _ (oS.mono hz2),kO _ _ (oP.mono hz2),?_⟩;exact(((((((yz.setCell (ZB _) _).setCell (ZB _) _).setCell (ZA _) _).setCell (ZA _) _).setCell (ZA _) _).setCell (ZA _) _).setCell (ZA _) _).setCell (ZA _) _
theorem Zr{w:World}{p a:Addr}{u v:Value}(h:w.cell? p=some v)(hne:p.block≠a.block):(w.setCell a u).cell? p=some v:=by
 unfold World.cell? at *;rw[Zm _ _ _ _ hne];exact h
def Yf(P:Nat->Prop)(w:World)(v:Value)(xs:List Int):Prop:=∃a n c,v=.slice a n c/\xs.length=n/\n<=c/\c<=9223372036854775807/\Ints w a xs/\(a=none->n=0)/\∀ad,a=some ad->0<n->P ad.block
theorem Yf.sl{P:Nat->Prop}{w:World}{v:Value}{xs:List Int}(h:Yf P w v xs):Sl w v xs:=by
 obtain⟨a,n,c,h1,h2,h3,h4,h5,h6,_⟩:=h;exact⟨a,n,c,h1,h2,h3,h4,h5,h6⟩
theorem Yf.imp{P Q:Nat->Prop}{w:World}{v:Value}{xs:List Int}(h:Yf P w v xs)(hi:∀k,P k->Q k):Yf Q w v xs:=by
 exact QEI
theorem Yf.keep{P:Nat->Prop}{w w':World}{v:Value}{xs:List Int}(h:Yf P w v xs)(hc:∀p v,P p.block->w.cell? p=some v->w'.cell? p=some v):Yf P w' v xs:=by
 exact QEu
theorem Yf.setCell{P:Nat->Prop}{w:World}{v:Value}{xs:List Int}(h:Yf P w v xs){a:Addr}(ha:¬P a.block)(u:Value):Yf P (w.setCell a u) v xs:=
 h.keep fun p v hp hc=>Zr hc (fun e=>ha (e▸hp))
theorem Yf.below{P:Nat->Prop}{w w':World}{v:Value}{xs:List Int}(h:Yf P w v xs)(hb:Below w.heap.size w w'):Yf P w' v xs:=h.keep fun p v _ hc=>ZL hb p v hc
theorem Yf.drew{P:Nat->Prop}{w:World}{v:Value}{xs:List Int}(h:Yf P w v xs):Yf P w.drew v xs:=h.keep fun _ _ _ h=>h
theorem Yf.nil(P:Nat->Prop)(w:World):Yf P w (.slice none 0 0) []:=⟨none,0,0,rfl,rfl,ZB _,QQ,Ints.nil _ _,fun _=>rfl,fun ad e=>QAU⟩
theorem Sl.lt{w:World}{v:Value}{xs:List Int}(h:Sl w v xs):Yf (fun k=>k<w.heap.size) w v xs:=by
 exact QGO
theorem Own.jr{e:TypeId}{base:Nat}{w:World}{v:Value}{xs:List Int}(h:Own e base w v xs):Yf (fun k=>base<=k) w v xs:=by
 obtain⟨a,n,c,h1,h2,h3,h4,h5,h6⟩:=h.sl;exact QFn
theorem Yf.get{P:Nat->Prop}{w:World}{a:Option Addr}{n c:Nat}{xs:List Int}(h:Yf P w (.slice a n c) xs):xs.length=n/\n<=c/\c<=9223372036854775807/\Ints w a xs/\(a=none->n=0):=h.sl.get
theorem Yf.form{P:Nat->Prop}{w:World}{v:Value}{xs:List Int}(h:Yf P w v xs):∃a n c,v=.slice a n c:=by
 obtain⟨a,n,c,h1,_⟩:=h;exact⟨a,n,c,h1⟩
def Dx(P:Nat->Prop)(w:World)(v:Value)(vs:List Value):Prop:=∃a n c,v=.slice a n c/\vs.length=n/\n<=c/\c<=9223372036854775807/\J7 w a vs/\(a=none->n=0)/\∀ad,a=some ad->0<n->P ad.block
theorem Dx.vs{P:Nat->Prop}{w:World}{v:Value}{vs:List Value}(h:Dx P w v vs):Vs w v vs:=by
 obtain⟨a,n,c,h1,h2,h3,h4,h5,h6,_⟩:=h;exact⟨a,n,c,h1,h2,h3,h4,h5,h6⟩
theorem Dx.imp{P Q:Nat->Prop}{w:World}{v:Value}{vs:List Value}(h:Dx P w v vs)(hi:∀k,P k->Q k):Dx Q w v vs:=by
 exact QEI
theorem Dx.keep{P:Nat->Prop}{w w':World}{v:Value}{vs:List Value}(h:Dx P w v vs)(hc:∀p v,P p.block->w.cell? p=some v->w'.cell? p=some v):Dx P w' v vs:=by
 exact QEu
theorem Dx.nil(P:Nat->Prop)(w:World):Dx P w (.slice none 0 0) []:=⟨none,0,0,rfl,rfl,ZB _,QQ,J7.nil _ _,fun _=>rfl,fun ad e=>QAU⟩
theorem Vs.lt{w:World}{v:Value}{vs:List Value}(h:Vs w v vs):Dx (fun k=>k<w.heap.size) w v vs:=by
 exact QGO
theorem XT.vsp{e:TypeId}{base:Nat}{w:World}{v:Value}{vs:List Value}(h:XT e base w v vs):Dx (fun k=>base<=k) w v vs:=by
 obtain⟨a,n,c,h1,h2,h3,h4,h5,h6⟩:=h.vs;exact QFn
def Yd(P:Nat->Prop)(w:World)(vs:List Value)(X:List (List Int)):Prop:=vs.length=X.length/\∀i,i<X.length->Yf P w (vx vs i) (rx X i)
theorem Yd.lists{P:Nat->Prop}{w:World}{vs:List Value}{X:List (List Int)}(h:Yd P w vs X):Lists w vs X:=⟨h.1,fun i hi=>(h.2 i hi).sl⟩
theorem Yd.imp{P Q:Nat->Prop}{w w':World}{vs:List Value}{X:List (List Int)}(h:Yd P w vs X)(hi:∀v xs,Yf P w v xs->Yf Q w' v xs):Yd Q w' vs X:=⟨h.1,fun i k=>hi _ _ (h.2 i k)⟩
theorem Yd.append{P:Nat->Prop}{w:World}{vs us:List Value}{X Y:List (List Int)}(h:Yd P w vs X)(g:Yd P w us Y):Yd P w (vs++us) (X++Y):=by
 refine⟨by simp[h.1,g.1],fun i hi=>?_⟩;by_cases hl:i<X.length
 ·rw[DC (by rw[h.1];exact hl),Dw hl];exact h.2 i hl
 ·obtain⟨j,rfl⟩:∃j,i=X.length+j:=⟨i-X.length,QQ⟩
  rw[vK,<-h.1,uM];exact g.2 j Qa
theorem Yd.one{P:Nat->Prop}{w:World}{v:Value}{xs:List Int}(h:Yf P w v xs):Yd P w [v] [xs]:=⟨rfl,fun i hi=>by
 obtain rfl:i=0:=Qa;exact h⟩
theorem Yf.lt{P:Nat->Prop}{w:World}{v:Value}{xs:List Int}(h:Yf P w v xs):Yf (fun k=>P k/\k<w.heap.size) w v xs:=by
 exact QGN
theorem Dx.lt{P:Nat->Prop}{w:World}{v:Value}{vs:List Value}(h:Dx P w v vs):Dx (fun k=>P k/\k<w.heap.size) w v vs:=by
 exact QGN
theorem Yd.lt{P:Nat->Prop}{w:World}{vs:List Value}{X:List (List Int)}(h:Yd P w vs X):Yd (fun k=>P k/\k<w.heap.size) w vs X:=⟨h.1,fun i hi=>(h.2 i hi).lt⟩
theorem Yd.drop{P:Nat->Prop}{w:World}{vs:List Value}{X:List (List Int)}(h:Yd P w vs X)(k:Nat):Yd P w (vs.drop k) (X.drop k):=by
 refine⟨QBd,fun i hi=>?_⟩;rw[DD,lU];exact h.2 _ Qa
end Go.Proofs.YtmdcencmiopmmaaGreat
