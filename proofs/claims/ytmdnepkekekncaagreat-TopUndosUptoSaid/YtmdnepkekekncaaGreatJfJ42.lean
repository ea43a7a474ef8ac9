/- joined, no condition of its own. -/
import Derived.Test.YtmdnepkekekncaaGreatJfJ41
set_option linter.unusedVariables false
set_option linter.unusedSimpArgs false
set_option maxRecDepth 100000
set_option maxHeartbeats 12000000
namespace Go.Proofs.YtmdnepkekekncaaGreat
open Go.RowKit
theorem WE.ln{F:Nat->Prop}{w:World}{la:Option Addr}{ln lc:Nat}{most Zm:Int}{sv pv:Value}{older:Bool}{h:Hi}(r:WE F w (.slice la ln lc) most Zm sv pv older h):h.ls.length=ln:=by
 obtain⟨vs,h1,h2⟩:=r.ls;obtain⟨a,n,c,e,g,-⟩:=h1;simp only[Xy]at e;obtain⟨rfl,rfl,rfl⟩:=e;rw[<-h2.1,g]
theorem Ee(W0:World)(F G:Nat->Prop)(B:Nat)(S:SS)(w:World)(h:YF F G w B S)(hn:S.told.length<=4398046511103):
  Calls Tryz.prog 34 #[.pointer (some ⟨B,0,none⟩),.int .i64 3] w (VP F G w B (S.key W0 3) YM):=by
 have HT:=Zy (vQ F G B S 3 (.slice none 0 0) [] w h (Yn.nil _ _) hn);have he:S.key W0 3=({S.tell 3 []with now:=none,XQ:=⟨S.XQ.ls,S.XQ.most,S.XQ.ls.length,[],S.XQ.pat,S.XQ.older⟩}).Js [] 1:=by unfold SS.key;rw[if_pos rfl]
 rw[he];clear he hn h;go_enter Tryz.func34,Tryz.ntmps34
 go_wp2_with fail
 refine HT.out.mono ?_;rintro e w2 ⟨rfl,hv⟩;obtain⟨F2,f2,hA2,-,-⟩:=hv.get;obtain⟨x47,z47⟩:=hA2.hf.m.blk.at 47;have hA3:=hA2.Ph;obtain⟨la,ln,lc,sa,sn,sc,pa,pn,pc,hH,e37,e38,e39,e40,e41,e42⟩:=Kb hA3.hf;obtain⟨M4,-⟩:=hA3.hf.m.blk.at 37;obtain⟨x39,z39⟩:=hA3.hf.m.blk.at 39;obtain⟨PG,z40⟩:=hA3.hf.m.blk.at 40;rw[e37]at M4;have hln:=hH.ln;have hln:S.XQ.ls.length=ln:=hln;have nB:=hA3.hf.m.nB;have r1:=hH.Ua (i:=39) (u:=.int .i64 (ln:Int)) nB;have UY:=hA3.store (S':={S.tell 3 []with now:=none,XQ:=⟨S.XQ.ls,S.XQ.most,S.XQ.ls.length,S.XQ.XU,S.XQ.pat,S.XQ.older⟩}) 39 (.int .i64 (ln:Int))
  {hA3.hf.d with XQ:=⟨hA3.hf.d.XQ.ls,rfl,rfl,hA3.hf.d.XQ.XU,hA3.hf.d.XQ.pat,rfl⟩,Ey:=by rw[hln];rfl}
 have Kn:=UY.store (S':={S.tell 3 []with now:=none,XQ:=⟨S.XQ.ls,S.XQ.most,S.XQ.ls.length,[],S.XQ.pat,S.XQ.older⟩}) 40 (.slice none 0 0)
  {UY.hf.d with XQ:=⟨UY.hf.d.XQ.ls,rfl,rfl,Yn.nil _ _,UY.hf.d.XQ.pat,rfl⟩}
 have HB:=Zy (AZ _ _ B _ none 0 0 [] 1 _ ⟨_,Kn.hf⟩ (Sl.nil _) QQ (.inr rfl));have bz:=Zy Kn;clear hA2 hA3 UY Kn hH e37 e38 e39 e40 e41 e42 hln nB r1 hv;go_wp2_with fail
 refine HB.out.mono ?_;rintro e w7 ⟨rfl,hv⟩;obtain⟨F7,f7,kC,-,-⟩:=bz.out.call hv;have HA7:=Zy kC;clear kC hv;go_wp2
 go_end0
 exact⟨rfl,HA7.out.done⟩
theorem NJ(W0:World)(F G:Nat->Prop)(B:Nat)(S:SS)(w:World)(h:YF F G w B S)(hm:S.mode≠3)(hn:S.told.length<=4398046511103):
  Calls Tryz.prog 34 #[.pointer (some ⟨B,0,none⟩),.int .i64 4] w (VP F G w B (S.key W0 4) YM):=by
 have he:S.key W0 4=if 0<S.text.length then S.Y2 else {S.tell 4 []with over:=true}:=by
  unfold SS.key;rw[if_neg QZ,if_neg hm,if_neg QZ,if_pos rfl]
 obtain⟨f,hf⟩:=h;have hA:=At.begin hf;obtain⟨p,hpt⟩:=hf.d.text.ptr;have c0:=hf.cell 0;have c2:=hf.cell 2;have htx:=hf.d.text;rw[hpt]at c0 htx;rw[hf.d.mode]at c2;have iT:(S.mode==3)=false:=by simpa using hm
 obtain⟨T,hT1,hT2⟩:=htx;have HL:=Zy (Af p T w hT1.tree);have HT2:=Zy hT2;have HA:=Zy hA;have HN:=Zy hn;have HE:=Zy he;clear hf hA hpt he hm hn hT1 hT2;go_enter Tryz.func34,Tryz.ntmps34
 go_wp2_with fail
 refine HL.out.mono ?_;rintro e w2 ⟨rfl,hb2⟩;rw[HT2.out];have hA2:=HA.out.JA hb2;by_cases hz:0<S.text.length
 ·have h1:(0:Int)<(S.text.length:Int):=by omega
  have HB:=Zy (U9 _ _ B S w2 ⟨f,hA2.hf⟩ HN.out);have HA2:=Zy hA2;have HZ:=Zy hz;clear hA2 hb2 hz;go_wp2_with fail
  refine HB.out.mono ?_;rintro e w7 ⟨rfl,hv⟩;obtain⟨F7,f7,kC,-,-⟩:=HA2.out.call hv;go_wp2
  go_end0
  exact⟨rfl,by rw[HE.out,if_pos HZ.out];exact kC.done⟩
 ·have h0:S.text.length=0:=by omega
  have HB:=Zy (vQ _ _ B S 4 (.slice none 0 0) [] w2 ⟨f,hA2.hf⟩ (Yn.nil _ _) HN.out);have HA2:=Zy hA2;have HZ:=Zy hz;rw[h0];clear hA2 hb2 hz h0;go_wp2_with fail
  refine HB.out.mono ?_;rintro e w7 ⟨rfl,hv⟩;obtain⟨F7,f7,kC,-,-⟩:=HA2.out.call hv;obtain⟨x55,z55⟩:=kC.hf.m.blk.at 55;have HA8:=Zy (kC.store (S':={S.tell 4 []with over:=true}) 55 (.bool true) {kC.hf.d with over:=rfl});clear kC hv;go_wp2
  go_end0
  exact⟨rfl,by rw[HE.out,if_neg HZ.out];exact HA8.out.done⟩
theorem jM(F G:Nat->Prop)(B:Nat)(S S':SS)(key:Int)(w:World)(k3:key≠3)(h:YF F G w B S)(m:Bool)
  (hcase:(S.mode=3/\Calls Tryz.prog 57 #[.pointer (some ⟨B,0,none⟩),.int .i64 key] w (VP F G w B S' YM))\/
   (S.mode≠3/\(key=13\/key=10)/\Calls Tryz.prog 58 #[.pointer (some ⟨B,0,none⟩)] w (VP F G w B S' YM))\/
   (S.mode≠3/\S.mode≠0/\key≠13/\key≠10/\key≠4/\Calls Tryz.prog 61 #[.pointer (some ⟨B,0,none⟩),.int .i64 key] w (VP F G w B S' YM))):
  Calls Tryz.prog 34 #[.pointer (some ⟨B,0,none⟩),.int .i64 key] w (VP F G w B S' YM):=by
 obtain⟨f,hf⟩:=h;have c2:=hf.cell 2;rw[hf.d.mode]at c2;have e3:(key==3)=false:=by simpa using k3
 rcases hcase with⟨hm,hC⟩|⟨hm,hk,hC⟩|⟨hm,hm0,bS,h10,h4,hC⟩
 ·rw[hm]at c2
  have HC:=Zy hC;clear hC hm hf k3;exact QHy
 ·have iT:(S.mode==3)=false:=by simpa using hm
  have HC:=Zy hC;clear hC hm hf k3;rcases hk with rfl|rfl
  all_goals
   exact QHy
 ·have iT:(S.mode==3)=false:=by simpa using hm
  have hmn:(S.mode !=0)=true:=by simpa using hm0
  have e13:(key==13)=false:=by simpa using bS
  have e10:(key==10)=false:=by simpa using h10
  have e4:(key==4)=false:=QEa;have HC:=Zy hC;clear hC hm hf k3 hm0 bS h10 h4;exact QHy
theorem Iu(W0:World)(F G:Nat->Prop)(B K:Nat)(S:SS)(key:Int)(w:World)(h:YF F G w B S)(hI:Xz K S)(hm:S.mode=0)(h3:key≠3)(bS:key≠13)(h10:key≠10)(h4:key≠4)(hK:K<=4398046511103)(hn:S.told.length+K+2<=4398046511103):
  Calls Tryz.prog 34 #[.pointer (some ⟨B,0,none⟩),.int .i64 key] w (VP F G w B (S.key W0 key) YM):=by
 have he:S.key W0 key=if(S.JS key).how=2 then({S with part:=(S.JS key).part}).command W0 (S.JS key).cmd else if(S.JS key).how=3 then({S with part:=(S.JS key).part}).Y2 else {S with part:=(S.JS key).part}:=by
  unfold SS.key;rw[if_neg h3,if_neg QQ,if_neg QQ,if_neg h4,if_neg QQ]
 obtain⟨f,hf⟩:=h;have hA:=At.begin hf;have c2:=hf.cell 2;rw[hf.d.mode,hm]at c2;have c32:=hf.cell 32;have Ko:=hf.cell 33;have c34:=hf.cell 34;have yx:=hf.cell 35;have c36:=hf.cell 36;rw[hf.d.p0]at c32;rw[hf.d.p1]at Ko;rw[hf.d.p2]at c34;rw[hf.d.p3]at yx;rw[hf.d.p4]at c36;have e3:(key==3)=false:=QEQ;have e13:(key==13)=false:=by simpa using bS
 have e10:(key==10)=false:=by simpa using h10
 have e4:(key==4)=false:=QEa;have HT:=Zy (EW S.part.a S.part.b S.part.c S.part.d S.part.e key w hI.pt);have hTK:YV S.part.a S.part.b S.part.c S.part.d S.part.e key=S.JS key:=rfl;rw[hTK]at HT;have hok:=Ew (key:=key) hI.pt;rw[hTK]at hok;have HE:=Zy he;have HA:=Zy hA;have HI:=Zy hI;have HN:=Zy hn;have HM:=Zy hm;have xK:=Zy hok;clear hf hA he hI hn hm hok hTK h3 bS h10 h4;generalize S.JS key=t at *;go_enter Tryz.func34,Tryz.ntmps34
 go_wp2_with fail
 refine HT.out.mono ?_;rintro e w2 ⟨rfl,hb2⟩;unfold TK.q TK.c;have hA2:=HA.out.JA hb2;obtain⟨x32,z32⟩:=hA2.hf.m.blk.at 32;obtain⟨x33,z33⟩:=hA2.hf.m.blk.at 33;obtain⟨x34,z34⟩:=hA2.hf.m.blk.at 34;obtain⟨x35,z35⟩:=hA2.hf.m.blk.at 35;obtain⟨x36,z36⟩:=hA2.hf.m.blk.at 36;have hBl:=hA2.hf.vz;have hA3:=hA2.store (S':={S with part:=⟨t.q0,S.part.b,S.part.c,S.part.d,S.part.e⟩}) 32 (.int .i64 t.q0) {hA2.hf.d with p0:=rfl};have UY:=hA3.store (S':={S with part:=⟨t.q0,t.q1,S.part.c,S.part.d,S.part.e⟩}) 33 (.int .i64 t.q1) {hA3.hf.d with p1:=rfl};have Kn:=UY.store (S':={S with part:=⟨t.q0,t.q1,t.q2,S.part.d,S.part.e⟩}) 34 (.int .i64 t.q2) {UY.hf.d with p2:=rfl};have Wy:=Kn.store (S':={S with part:=⟨t.q0,t.q1,t.q2,t.q3,S.part.e⟩}) 35 (.int .i64 t.q3) {Kn.hf.d with p3:=rfl};have kC:=Wy.store (S':={S with part:=t.part}) 36 (.int .i64 t.q4) {Wy.hf.d with p4:=rfl};have qf:=kC.JA (Zp.alloc (o:=.cells #[.int .i64 t.c0,.int .i64 t.c1,.int .i64 t.c2,.int .i64 t.c3,.int .i64 t.c4] 39) (Zp.alloc (o:=.cells #[.int .i64 t.q0,.int .i64 t.q1,.int .i64 t.q2,.int .i64 t.q3,.int .i64 t.q4] 44) (ZH _ _)));have HA8:=Zy qf;clear hA2 hA3 UY Kn Wy kC qf hb2 c2 c32 Ko c34 yx c36;by_cases h2:t.how=2
 ·rw[h2]
  have HC:=Zy (NU W0 _ _ B K {S with part:=t.part} t.cmd _ ⟨_,HA8.out.hf⟩ {HI.out with pt:=xK.out.1} HM.out xK.out.2 hK HN.out);unfold TK.cmd at HC;have H2:=Zy h2;clear h2;go_wp2_with fail
  refine HC.out.mono ?_;rintro e w7 ⟨rfl,hv⟩;obtain⟨F7,f7,qV,-,-⟩:=HA8.out.call hv;have HA9:=Zy qV;clear qV hv;go_wp2
  go_end0
  exact⟨rfl,by rw[HE.out,if_pos H2.out];exact HA9.out.done⟩
 ·by_cases h3:t.how=3
  ·rw[h3]
   have HC:=Zy (U9 _ _ B {S with part:=t.part} _ ⟨_,HA8.out.hf⟩ (Zf (Zf (Xn _ _) (Xn _ _)) HN.out));have H2:=Zy h2;have H3:=Zy h3;clear h2 h3;go_wp2_with fail
   refine HC.out.mono ?_;rintro e w7 ⟨rfl,hv⟩;obtain⟨F7,f7,qV,-,-⟩:=HA8.out.call hv;have HA9:=Zy qV;clear qV hv;go_wp2
   go_end0
   exact⟨rfl,by rw[HE.out,if_neg H2.out,if_pos H3.out];exact HA9.out.done⟩
  ·have e2:(t.how==2)=false:=by simpa using h2
   have e5:(t.how==3)=false:=QEQ;have H2:=Zy h2;have H3:=Zy h3;clear h2 h3;go_wp2
   go_end0
   exact⟨rfl,by rw[HE.out,if_neg H2.out,if_neg H3.out];exact HA8.out.done⟩
theorem QXp(W0:World)(F G:Nat->Prop)(B K:Nat)(S:SS)(key:Int)(w:World)(h:YF F G w B S)(hI:Xz K S)(hK:K<=4398046511103)(hn:S.told.length+K+2<=4398046511103):
  Calls Tryz.prog 34 #[.pointer (some ⟨B,0,none⟩),.int .i64 key] w (VP F G w B (S.key W0 key) YM):=by
 by_cases h3:key=3
 ·subst h3;exact Ee W0 F G B S w h QQ
 by_cases iT:S.mode=3
 ·have he:S.key W0 key=S.asked key:=by unfold SS.key;rw[if_neg h3,if_pos iT]
  rw[he];exact jM F G B S _ key w h3 h true (.inl ⟨iT,dW F G B K S key w h hI QQ⟩)
 by_cases bS:key=13\/key=10
 ·have he:S.key W0 key=S.accept:=by unfold SS.key;rw[if_neg h3,if_neg iT,if_pos bS]
  rw[he];exact jM F G B S _ key w h3 h true (.inr (.inl ⟨iT,bS,Sy F G B S w h hI.tl hI.hi QQ⟩))
 by_cases h4:key=4
 ·subst h4;exact NJ W0 F G B S w h iT QQ
 by_cases hm0:S.mode=0
 ·exact Iu W0 F G B K S key w h hI hm0 h3 QQ QQ h4 hK hn
 ·have he:S.key W0 key=S.typed key:=by unfold SS.key;rw[if_neg h3,if_neg iT,if_neg bS,if_neg h4,if_pos hm0]
  rw[he];exact jM F G B S _ key w h3 h true (.inr (.inr ⟨iT,hm0,QQ,QQ,h4,vw F G B S key w h hI.tl hI.p0 (by have:=hI.p1;have:=hI.tl;omega) QQ (fun c ty e=>by have:=(hI.nw c ty e).2;omega)⟩))
def VC(c:Int)(s:List Int×Nat):List Int×Nat:=
 if c=8 then(s.1,s.2-1)else if c=13 then(s.1,0)
 else if c=11 then(s.1.take s.2++List.replicate (s.1.length-s.2) 32,s.2)
 else if 32<=c/\c≠127/\s.2<s.1.length then(s.1.set s.2 c,s.2+1)else s
theorem QUh(w:World)(x:Int):Ints (w.alloc (.cells #[.int .i64 x] 3)) (some ⟨w.heap.size,0,none⟩) [x]:=
 .inr ⟨_,_,rfl,fun i hi=>by
  obtain rfl:i=0:=QDb;exact JQ w (.int .i64 x) 3⟩
theorem E5(k:Int)(w:World)(hk:k<2\/120<k):
  Calls Tryz.prog 50 #[.int .i64 k] w fun e w'=>e=.returned (.tuple #[.agg #[.slice none 0 0,.int .i64 0],.int .i64 1])/\Below w.heap.size w w':=by
 have hA:=Za.new w #[.slice none 0 0,.int .i64 0] 51;have hb:=ZR w (.cells #[.slice none 0 0,.int .i64 0] 51);obtain⟨y0,y1,-,-⟩:=hA.two;by_cases h:k<2
 all_goals
  go_enter Tryz.func50,Tryz.ntmps50
  go_wp2;refine ZC (v:=.tuple #[.agg #[.slice none 0 0,.int .i64 0],.int .i64 1]) (by simp[results,Tryz.results50,go_sem,y0,y1]) rfl ?_;exact⟨rfl,hb⟩
theorem fV(k:Nat):qL [32] k=List.replicate k 32:=by
 induction k with
 | zero=>rfl
 | succ k ih=>rw[List.replicate_succ,<-ih];simp[qL,List.replicate_succ]
def QZK(k:Nat)(w:World)(e:Ending)(w':World):Prop:=
 ∃v,e=.returned (.tuple #[.agg #[v,.int .i64 0],.int .i64 0])/\Own 3 w.heap.size w' v (List.replicate k 32)/\Below w.heap.size w w'
theorem dI(k:Nat)(w:World)(h1:2<=k)(h2:k<=120):
  Calls Tryz.prog 50 #[.int .i64 (k:Int)] w (QZK k w):=by
 go_enter Tryz.func50,Tryz.ntmps50
 go_wp2_with fail
 have hI:=QUh (w.alloc (.cells #[.slice none 0 0,.int .i64 0] 51)) 32;rw[Zu]at hI;have hk4:k<=4096:=QQ;have h14:1<=4096:=QZ;have hc:=WQ _ 1 1 k [32] _ hI rfl hk4 h14;refine hc.mono ?_;rintro e w2 ⟨v,rfl,hown,hb2⟩;obtain⟨av,nv,cv,rfl⟩:=hown.form;rw[fV]at hown;rw[Zu,Zu]at hown;have hA:=Za.below ((Za.new w #[.slice none 0 0,.int .i64 0] 51).alloc (.cells #[.int .i64 32] 3)) hb2 QY;obtain⟨d0,d1,g0,g1⟩:=hA.two;have hb:=ZE (Zo w (.cells #[.slice none 0 0,.int .i64 0] 51) (.cells #[.int .i64 32] 3)) QY hb2;go_wp2;have hG:=((hA.set 0 (.slice av nv cv)).set 1 (.int .i64 0));obtain⟨y0,y1,-,-⟩:=Za.two hG;refine ZC (v:=.tuple #[.agg #[.slice av nv cv,.int .i64 0],.int .i64 0]) (by simp[results,Tryz.results50,go_sem,y0,y1]) rfl ?_;exact⟨_,rfl,((hown.setCell QY _).setCell QY _).mono QQ,(hb.setCell (p:=⟨w.heap.size,0,none⟩) (ZB _) _).setCell (p:=⟨w.heap.size,1,none⟩) (ZB _) _⟩
def qW(xs:List Int)(p j:Nat):List Int:=xs.take p++(List.replicate (j-p) 32++xs.drop j)
theorem Ob(xs:List Int)(p j:Nat)(h1:p<=j)(h2:j<=xs.length):(qW xs p j).length=xs.length:=by simp[qW];omega
theorem aB(xs:List Int)(p j i:Nat)(h1:p<=j)(h2:j<=xs.length):ix (qW xs p j) i=if i<p then ix xs i else if i<j then 32 else ix xs i:=by
 have hp:(xs.take p).length=p:=QY;have hr:(List.replicate (j-p) (32:Int)).length=j-p:=QJ;by_cases e1:i<p
 ·rw[if_pos e1];unfold qW;rw[YE QQ];simp[ix,e1]
 ·rw[if_neg e1]
  obtain⟨k,rfl⟩:∃k,i=p+k:=⟨i-p,QQ⟩;unfold qW;have hpk:p+k=(xs.take p).length+k:=by rw[hp]
  rw[hpk,KP];by_cases e2:(xs.take p).length+k<j
  ·rw[if_pos e2,YE QQ,Ya QQ];simp
  ·rw[if_neg e2]
   obtain⟨m,rfl⟩:∃m,k=(List.replicate (j-p) (32:Int)).length+m:=⟨k-(j-p),by rw[hr];omega⟩;rw[KP,hr,hp];simp only[ix,Zg,List.getElem?_drop];rw[show p+(j-p+m)=j+m from QQ]
theorem Oc(xs:List Int)(p:Nat):qW xs p xs.length=xs.take p++List.replicate (xs.length-p) 32:=by simp[qW]
def Wn(l:List Int)(s:List Int×Nat):List Int×Nat:=l.foldl (fun s c=>VC c s) s
theorem UT(l m:List Int)(s:List Int×Nat):Wn (l++m) s=Wn m (Wn l s):=by simp[Wn]
theorem p9{c:Int}{X:List Int}{p:Nat}(hc:Ug c=false)(hp:p<X.length):VC c (X,p)=(X.set p c,p+1):=by
 have h:32<=c/\c≠127:=by simpa[Ug]using hc
 unfold VC;rw[if_neg QQ,if_neg QQ,if_neg QQ,if_pos ⟨h.1,h.2,hp⟩]
theorem jP{B X:List Int}{n f:Nat}(hB:B.length=n)(hX:X.length=n)(hb:∀i,i<n->Ug (ix B i)=false):∀m,f+m<=n->∃X',Wn ((B.take (f+m)).drop f) (X,f)=(X',f+m)/\X'.length=n/\∀i,ix X' i=if f<=i/\i<f+m then ix B i else ix X i
 | 0,_=>⟨X,by simp[Wn],hX,fun i=>by rw[if_neg QQ]⟩
 | m+1,h=>by
  obtain⟨X',h1,h2,h3⟩:=jP (f:=f) hB hX hb m QQ;have e:(B.take (f+(m+1))).drop f=(B.take (f+m)).drop f++[ix B (f+m)]:=by
   rw[show f+(m+1)=(f+m)+1 from rfl,Xx QQ,List.drop_append_of_le_length QY,Ya QQ]
  refine⟨X'.set (f+m) (ix B (f+m)),?_,by simp[h2],fun i=>?_⟩
  ·rw[e,UT,h1];exact p9 (hb _ QQ) QQ
  ·by_cases hi:i=f+m
   ·subst hi;rw[RF QQ,if_pos QQ]
   ·rw[RD (fun e=>hi e.symm),h3]
    by_cases c:f<=i/\i<f+m
    ·rw[if_pos c,if_pos QQ]
    ·rw[if_neg c,if_neg QQ]
theorem Ia{X:List Int}:∀m p,Wn (List.replicate m 8) (X,p)=(X,p-m)
 | 0,p=>rfl
 | m+1,p=>by
  rw[List.replicate_succ];show Wn (List.replicate m 8) (VC 8 (X,p))=_;rw[show VC 8 (X,p)=(X,p-1)from rfl,Ia m (p-1),Nat.sub_sub,Nat.add_comm 1 m]
theorem pg{B X:List Int}{n f t:Nat}(hB:B.length=n)(hX:X.length=n)(hb:∀i,i<n->Ug (ix B i)=false)(hf:f<=n)(ht:t<=n):
  ∃X',Wn (YN B f t) (X,f)=(X',t)/\X'.length=n/\(∀i,ix X i=ix B i->ix X' i=ix B i)/\∀i,f<=i->i<t->ix X' i=ix B i:=by
 unfold YN;by_cases c:f<=t
 ·rw[if_pos c]
  obtain⟨X',h1,h2,h3⟩:=jP (f:=f) hB hX hb (t-f) QQ;rw[show f+(t-f)=t from QQ]at h1 h3;exact⟨X',h1,h2,fun i hi=>by rw[h3];split;rfl;exact hi,fun i a b=>by rw[h3,if_pos ⟨a,b⟩]⟩
 ·rw[if_neg c]
  by_cases c2:f-t<=1+t
  ·rw[if_pos c2,Ia]
   exact⟨X,by rw[show f-(f-t)=t from QQ],hX,fun i hi=>hi,fun i a b=>QQ⟩
  ·rw[if_neg c2]
   obtain⟨X',h1,h2,h3⟩:=jP (f:=0) hB hX hb t QQ;rw[XI,List.drop_zero]at h1;refine⟨X',?_,h2,fun i hi=>by rw[h3];split;rfl;exact hi,fun i a b=>QQ⟩;show Wn (B.take t) (VC 13 (X,f))=_;rw[show VC 13 (X,f)=(X,0)from rfl];exact h1
structure Rk (A B:List Int) (n pa:Nat) (s:Nat×List Int) (P:Nat->Prop):Prop where
 le:s.1<=n
 ex:∃X,Wn s.2 (A,pa)=(X,s.1)/\X.length=n/\∀i,i<n->(ix A i=ix B i\/P i)->ix X i=ix B i
theorem Rk.nil{A B:List Int}{n pa:Nat}(hA:A.length=n)(hp:pa<=n):Rk A B n pa (pa,[]) (fun _=>False):=
 ⟨hp,A,rfl,hA,fun i _ h=>h.elim id False.elim⟩
theorem Rk.go{A B:List Int}{n pa:Nat}{s:Nat×List Int}{P:Nat->Prop}(h:Rk A B n pa s P)(hB:B.length=n)(hb:∀i,i<n->Ug (ix B i)=false)(k:Nat)(hk:k<=n):Rk A B n pa (goS B k s) (fun i=>P i\/(s.1<=i/\i<k)):=by
 obtain⟨h0,X,h1,h2,h3⟩:=h;obtain⟨X',g1,g2,g3,g4⟩:=pg (t:=k) hB h2 hb h0 hk;refine⟨hk,X',?_,g2,fun i hi hp=>?_⟩
 ·show Wn (s.2++YN B s.1 k) (A,pa)=_
  rw[UT,h1];exact g1
 ·rcases hp with hp|hp|hp
  ·exact g3 i (h3 i hi (.inl hp))
  ·exact g3 i (h3 i hi (.inr hp))
  ·exact g4 i hp.1 hp.2
theorem Rk.Qq4{A B:List Int}{n pa p:Nat}{l:List Int}{P:Nat->Prop}(h:Rk A B n pa (p,l) P)(hw:∀i,p<=i->i<n->ix B i=32):Rk A B n pa (p,l++[11]) (fun i=>P i\/p<=i):=by
 obtain⟨h0,X,h1,h2,h3⟩:=h;dsimp only at h0 h1;have he:X.take p++List.replicate (X.length-p) 32=qW X p X.length:=(Oc X p).symm;refine⟨h0,qW X p X.length,?_,by rw[Ob _ _ _ QQ (ZB _)];exact h2,fun i hi hp=>?_⟩
 ·dsimp only
  rw[UT,h1,<-he];rfl
 ·rw[aB _ _ _ _ QQ (ZB _)]
  by_cases c:i<p
  ·rw[if_pos c]
   rcases hp with hp|hp|hp
   ·exact h3 i hi (.inl hp)
   ·exact h3 i hi (.inr hp)
   ·omega
  ·rw[if_neg c,if_pos QQ]
   exact(hw i QQ hi).symm
theorem Rk.fill{A B:List Int}{n pa:Nat}{s:Nat×List Int}{P:Nat->Prop}(h:Rk A B n pa s P)(hB:B.length=n)(hb:∀i,i<n->Ug (ix B i)=false)(x y:Nat)(hxy:x<=y)(hy:y<=n):Rk A B n pa (df B s (x,some y)) (fun i=>P i\/(x<=i/\i<y)):=by
 have h1:=(h.go hB hb x QQ).go hB hb y hy;exact QHo
theorem Rk.dX{A B:List Int}{n pa:Nat}{s:Nat×List Int}{P:Nat->Prop}(h:Rk A B n pa s P)(hB:B.length=n)(hb:∀i,i<n->Ug (ix B i)=false)(p:Nat)(hp:p<=n)(hw:∀i,p<=i->i<n->ix B i=32):Rk A B n pa (df B s (p,none)) (fun i=>P i\/p<=i):=by
 have h1:=(h.go hB hb p hp).Qq4 hw;exact QHo
theorem Rk.done{A B:List Int}{n pa pb:Nat}{s:Nat×List Int}{P:Nat->Prop}(h:Rk A B n pa s P)(hB:B.length=n)(hb:∀i,i<n->Ug (ix B i)=false)(hp:pb<=n)(hall:∀i,i<n->ix A i=ix B i\/P i):Wn (goS B pb s).2 (A,pa)=(B,pb):=by
 obtain⟨X,g1,g2,g3⟩:=(h.go hB hb pb hp).ex;rw[g1,kU (xs:=X) (ys:=B) (by rw[g2,hB]) fun i hi=>g3 i QQ (by rcases hall i QQ with h|h;exact .inl h;exact .inr (.inl h))];rfl
theorem aM(b:List Int):∀l:List (List Int),KX b l=b\/KX b l∈l:=by
 intro l;induction l generalizing b with
 | nil=>exact .inl rfl
 | cons s l ih=>
  show KX (Jc b s) l=b\/_;show KX (Jc b s) l=b\/KX (Jc b s) l∈s::l;rcases ih (Jc b s)with h|h
  ·rw[h]
   unfold Jc;split
   ·exact .inr (Zb.2 (.inl rfl))
   ·exact .inl rfl
  ·exact .inr (List.mem_cons_of_mem _ h)
theorem aN(b:List Int):∀l:List (List Int),(KX b l).length<=b.length:=by
 intro l;induction l generalizing b with
 | nil=>exact ZB _
 | cons s l ih=>
  refine Zf (ih (Jc b s)) ?_;unfold Jc;split<;>omega
theorem uJ{lo hi full:Nat}{p:List (Nat×Option Nat)}:∀{m:Nat},p∈Uw lo hi full m->∃k,k<m/\p∈Vt lo hi (full+k)
 | 0,h=>QEj
 | m+1,h=>by
  rcases XO.1 h with h|h
  ·obtain⟨k,h1,h2⟩:=uJ h
   exact⟨k,QQ,h2⟩
  ·exact⟨m,QQ,h⟩
theorem LW{A B:List Int}{n pa pb full x y lo hi fi la:Nat}(H:Ui A B n full x y lo hi fi la)(hA:A.length=n)(hB:B.length=n)(hb:∀i,i<n->Ug (ix B i)=false)(oD:pa<=n)(hpb:pb<=n):
  Wn (Uo B pa pb x y full lo hi fi la) (A,pa)=(B,pb):=by
 have h0:=Rk.nil (B:=B) hA oD;obtain⟨_,hxy,hyn,hlo,hhi,_,hnone⟩:=H.all;have hone:x<y->Wn (xq B pa [(x,some y)] pb) (A,pa)=(B,pb):=fun h=>
  (h0.fill hB hb x y hxy hyn).done hB hb hpb fun i hi=>by
   by_cases c1:i<x
   ·exact .inl (hlo i (Z4 _) c1)
   ·by_cases c2:i<y
    ·exact .inr (.inr ⟨QQ,c2⟩)
    ·exact .inl (hhi i QQ hi)
 unfold Uo;by_cases hx:x<y
 ·rw[if_pos hx]
  by_cases hf:fi<la
  ·rw[if_pos hf]
   rcases aM (xq B pa [(x,some y)] pb) ((Uw lo hi full (fi+1-full)).map (fun p=>xq B pa p pb))with h|h
   ·rw[h];exact hone hx
   ·obtain⟨p,hp,he⟩:=List.mem_map.1 h
    rw[<-he];obtain⟨k,hk,hp⟩:=uJ hp;have tfx:=H.tail.fx;have txy:=H.tail.xy;have tyt:=H.tail.yt;have hw:∀i,full+k<=i->i<n->ix B i=32:=fun i h1 h2=>H.MQ.blank i QQ h2
    have hkn:full+k<=n:=QQ;have hhn:hi<=n:=Zf H.head.yt H.MQ.le;have QZ0:∀i,i<n->full<=i->i<full+k->ix A i=ix B i:=fun i _ h1 h2=>H.tail.lo i h1 QQ
    unfold Vt at hp;by_cases hl:lo<hi
    ·rw[if_pos hl]at hp
     have QVI:∀i,i<n->ix A i=ix B i\/(full+k<=i\/(lo<=i/\i<hi)):=fun i h=>by
      by_cases c1:full+k<=i
      ·exact .inr (.inl c1)
      ·by_cases c2:full<=i
       ·exact .inl (QZ0 i h c2 QQ)
       ·by_cases c3:i<lo
        ·exact .inl (H.head.lo i (Z4 _) c3)
        ·by_cases c4:i<hi
         ·exact .inr (.inr ⟨QQ,c4⟩)
         ·exact .inl (H.head.hi i QQ QQ)
     simp only[Zb,List.mem_nil_iff,or_false]at hp;rcases hp with rfl|rfl
     ·exact((h0.fill hB hb lo hi QQ hhn).dX hB hb (full+k) hkn hw).done hB hb hpb fun i h=>by
       rcases QVI i h with h|h|h
       ·exact .inl h
       ·exact .inr (.inr h)
       ·exact .inr (.inl (.inr h))
     ·exact((h0.dX hB hb (full+k) hkn hw).fill hB hb lo hi QQ hhn).done hB hb hpb fun i h=>by
       rcases QVI i h with h|h|h
       ·exact .inl h
       ·exact .inr (.inl (.inr h))
       ·exact .inr (.inr h)
    ·rw[if_neg hl]at hp
     simp only[Zb,List.mem_nil_iff,or_false]at hp;subst hp;have hlo:lo=full:=H.head.none (by have:=H.head.xy;omega);exact(h0.dX hB hb (full+k) hkn hw).done hB hb hpb fun i h=>by
      by_cases c1:full+k<=i
      ·exact .inr (.inr c1)
      ·by_cases c2:full<=i
       ·exact .inl (QZ0 i h c2 QQ)
       ·exact .inl (H.head.lo i (Z4 _) QQ)
  ·rw[if_neg hf];exact hone hx
 ·rw[if_neg hx]
  have Jq:x=n:=hnone QQ;exact h0.done hB hb hpb fun i hi=>.inl (hlo i (Z4 _) QQ)
theorem zN{B:List Int}{n f t:Nat}(hB:B.length=n)(hf:f<=n)(ht:t<=n):(YN B f t).length<=n+1:=by
 unfold YN;split
 ·simp;omega
 ·split
  ·simp;omega
  ·simp;omega
theorem Tj{A B:List Int}{n pa pb full x y lo hi fi la:Nat}(H:Ui A B n full x y lo hi fi la)(hB:B.length=n)(oD:pa<=n)(hpb:pb<=n):(Uo B pa pb x y full lo hi fi la).length<=3*n+3:=by
 have hxy:=H.all.xy;have hyn:=H.all.yt;have h1:=zN (f:=pa) (t:=pb) hB oD hpb;have h2:=zN (f:=pa) (t:=x) hB oD QQ;have h3:=zN (f:=x) (t:=y) hB QQ hyn;have h4:=zN (f:=y) (t:=pb) hB hyn hpb;obtain⟨e1,e2,e3⟩:=EX B pa pb x y full lo hi fi la;rcases Z9 x y with hx|hx
 ·rcases Z9 fi la with hf|hf
  ·rw[e3 hx hf]
   refine Zf (aN _ _) ?_;simp only[ZN,List.length_nil];omega
  ·rw[e2 hx hf]
   simp only[ZN,List.length_nil];omega
 ·rw[e1 hx]
  simp only[ZN,List.length_nil];omega
theorem Ui.some(A B:List Int)(n:Nat)(h2:2<=n)(aJ:n<=120):∃r:Nat×Nat×Nat×Nat×Nat×Nat×Nat,Ui A B n r.1 r.2.1 r.2.2.1 r.2.2.2.1 r.2.2.2.2.1 r.2.2.2.2.2.1 r.2.2.2.2.2.2:=by
 obtain⟨full,hfull⟩:=R3.exists B n;obtain⟨x,y,hxy⟩:=Gw.exists A B 0 n (Z4 _);obtain⟨lo,hi,hlh⟩:=Gw.exists A B 0 full (Z4 _);obtain⟨fi,la,hfl⟩:=Gw.exists A B full n hfull.le;exact⟨(full,x,y,lo,hi,fi,la),h2,aJ,hfull,hxy,hlh,hfl⟩
theorem Ps(A B:List Int)(pa pb n:Nat)(hA:A.length=n)(h2:2<=n)(aJ:n<=120):
  ∃full x y lo hi fi la,Ui A B n full x y lo hi fi la/\Io A pa B pb=Uo B pa pb x y full lo hi fi la:=by
 subst hA;have h:=Classical.epsilon_spec (Ui.some A B A.length h2 aJ);exact⟨_,_,_,_,_,_,_,h,rfl⟩
theorem Vp{xs:List Int}{p:Int}(h:KS xs p=0):2<=xs.length/\xs.length<=120/\0<=p/\p<=xs.length/\∀i,i<xs.length->Ug (ix xs i)=false:=by
 unfold KS at h;split at h
 ·exact absurd h QZ
 ·rename_i h1
  split at h
  ·exact absurd h QZ
  ·rename_i h2
   refine⟨QQ,QQ,QQ,QQ,fun i hi=>?_⟩;cases hb:Ug (ix xs i)
   ·rfl
   ·rw[Ya hi]at hb
    exact absurd (List.any_eq_true.2 ⟨_,YQ hi,hb⟩) QEZ
theorem AO{K:Nat}{S:SS}(h:Xz K S):Wn (Io S.row S.rat.toNat S.show.row S.show.rat.toNat) (S.row,S.rat.toNat)=(S.show.row,S.show.rat.toNat)/\(Io S.row S.rat.toNat S.show.row S.show.rat.toNat).length<=363:=by
 have h1:=Vp h.re;have h2:=Vp h.show.re;have hw:=h.rw_;have hl:S.show.row.length=S.row.length:=by
  show(Uk S.text (XT S.pos S.off S.width) S.width).length=_
  rw[JN];omega
 obtain⟨full,x,y,lo,hi,fi,la,H,e⟩:=Ps S.row S.show.row S.rat.toNat S.show.rat.toNat S.row.length rfl h1.1 h1.2.1;rw[e];refine⟨LW H rfl hl (fun i hi=>h2.2.2.2.2 i QQ) QQ QQ,?_⟩;have:=Tj H hl (pa:=S.rat.toNat) (pb:=S.show.rat.toNat) QQ QQ;omega
theorem SK(n at' off width:Int)(w:World):
  Calls Tryz.prog 98 #[.int .i64 n,.int .i64 at',.int .i64 off,.int .i64 width] w fun e w'=>e=.returned (.int .i64 (if(Kr n at' off width).2=0/\(Kr n at' off width).1≠off then 1 else(Kr n at' off width).2))/\w=w':=by
 generalize hv:Kr n at' off width=v;have HV:=Zy hv;clear hv;go_enter Tryz.func98,Tryz.ntmps98
 go_wp2_with fail
 refine(qi n at' off width w).mono ?_;rintro e w' ⟨rfl,rfl⟩;rw[HV.out];go_wp2
 all_goals(go_ret;refine⟨XE ?_,rfl⟩;(try simp_all);done)
theorem NW{n at' off width:Int}(h0:n<=200)(h1:0<=at')(h2:at'<=n)(h3:0<=off)(h4:off<=200)(h5:2<=width)(h6:width<=120):Kr n at' off width=(XT at' off width,0):=by
 unfold Kr XT;rw[if_neg QQ]
 (repeat' split)<;>rfl
theorem Ec(n at' off width:Int)(w:World)(h0:n<=200)(h1:0<=at')(h2:at'<=n)(h3:0<=off)(h4:off<=200)(h5:2<=width)(h6:width<=120)(hs:XT at' off width=off):
  Calls Tryz.prog 98 #[.int .i64 n,.int .i64 at',.int .i64 off,.int .i64 width] w fun e w'=>e=.returned (.int .i64 0)/\w=w':=by
 refine(SK n at' off width w).mono ?_;rintro e w' ⟨rfl,rfl⟩;rw[NW h0 h1 h2 h3 h4 h5 h6];exact⟨XE (by simp[hs]),rfl⟩
def QZX(l:List Int)(at' off width err:Int)(w:World)(e:Ending)(w':World):Prop:=
 ∃v,e=.returned (.tuple #[.agg #[v,.int .i64 (at'-off)],.int .i64 err])/\Own 3 w.heap.size w' v (Uk l off width)/\Below w.heap.size w w'
theorem Ik(a:Option Addr)(n c:Nat)(l:List Int)(at' off width:Int)(w:World)(hl:Ints w a l)(hn:l.length=n)(hn2:n<=200)(h1:0<=at')(h2:at'<=n)(hs:XT at' off width=off)(h3:0<=off)(h4:off<=200)(h5:2<=width)(h6:width<=120):
  Calls Tryz.prog 65 #[.slice a n c,.int .i64 at',.int .i64 off,.int .i64 width] w (QZX l at' off width 0 w):=by
 have HN:=Zy hn;clear hn;obtain⟨o,rfl⟩:=Zw h3;obtain⟨d,rfl⟩:=Zw (show 0<=width from QQ);have HS:=Zy hs;clear hs;go_enter Tryz.func65,Tryz.ntmps65
 go_wp2_with fail
 refine(Ec _ _ _ _ _ QQ QQ QQ QQ QQ QQ QQ HS.out).mono ?_;rintro e w' ⟨rfl,rfl⟩;go_wp2
 go_loopw [33] (fun i wr=>∃k:Nat,i=.int .i64 (k:Int)/\k<=d/\∃v,Za wr w.heap.size #[.slice none 0 0,.int .i64 0] 51/\Za wr (w.heap.size+1) #[v,.int .i64 (at'-(o:Int))] 51/\
   Own 3 (w.heap.size+2) wr v ((Uk l o d).take k)/\Below w.heap.size w wr/\w.heap.size+2<=wr.heap.size) (fun i _=>d-(intOf i).toNat)
 case atStart=>
  refine⟨0,rfl,Z4 _,_,(Za.new _ _ _).alloc _,by simpa using Za.new (w.alloc _) _ _,Own.nil _ _ _,(((ZH _ _).alloc (ZB _) _).alloc QJ _),QJ⟩
 case round=>
  obtain⟨k,rfl,hk,v,hB0,hB1,hown,hbel,hsz⟩:=hrel;have c00:=hB0.cell 0;have c01:=hB0.cell 1;have c10:=hB1.cell 0;have c11:=hB1.cell 1;have f00:=hB0.free 0;have f01:=hB0.free 1;have f10:=hB1.free 0;have f11:=hB1.free 1;simp only[List.getElem?_toArray,List.getElem?_cons_zero,List.getElem?_cons_succ]at c00 c01 c10 c11;have hlen:((Uk l o d).take k).length<17592186044416:=by simp[JN];omega
  by_cases hlt:k<d
  ·by_cases hin:o+k<n
   ·obtain⟨b1,o1,rfl,hc⟩:=hl.at (k:=o+k) QDH
    have e1:wr.cell? ⟨b1,o1+(o+k),none⟩=some (.int .i64 (ix l (o+k))):=by
     have:=hc (o+k) QDH;exact QLB
    clear hc hl;go_wp2_with (first|(at_builtin;refine app1 rfl _ _ rfl (w.heap.size+2) _ _ _ _ rfl rfl (hown.alloc _) (JQ _ _ _) hlen (XJ hsz _) ?_;intro v1 w1 hown1 hgrow1;obtain⟨a1,n1,m1,rfl⟩:=hown1.form;have hC0:=(hB0.alloc _).grown hgrow1 (hown.ne (Nat.lt_succ_of_lt (ZF _)));have KR:=(hB1.alloc _).grown hgrow1 (hown.ne (ZF _));obtain⟨d10,d11,g10,g11⟩:=KR.two)|(go_at_call 99;refine(Sq _ _).mono ?_;rintro e w' ⟨rfl,rfl⟩))
    go_roundw
    case rel=>exact⟨k+1,Qy,QQ,_,hC0.other QJ _,KR.set 0 _,by rw[Df (by simpa using hlt)];exact(by rw[if_pos (by rw[HN.out];simpa using hin)];exact hown1.setCell QJ _),((hbel.alloc QQ _).grown hgrow1 QY (fun k hk=>QDj)).setCell QJ _,by have:=hgrow1.size;simp at this ⊢;omega⟩
    case measure=>simp[intOf];omega
   ·have hge:n<=o+k:=by omega
    clear hin;go_wp2_with (first|(at_builtin;refine app1 rfl _ _ rfl (w.heap.size+2) _ _ _ _ rfl rfl (hown.alloc _) (JQ _ _ _) hlen (XJ hsz _) ?_;intro v1 w1 hown1 hgrow1;obtain⟨a1,n1,m1,rfl⟩:=hown1.form;have hC0:=(hB0.alloc _).grown hgrow1 (hown.ne (Nat.lt_succ_of_lt (ZF _)));have KR:=(hB1.alloc _).grown hgrow1 (hown.ne (ZF _));obtain⟨d10,d11,g10,g11⟩:=KR.two))
    go_roundw
    case rel=>exact⟨k+1,Qy,QQ,_,hC0.other QJ _,KR.set 0 _,by rw[Df (by simpa using hlt)];exact(by rw[if_neg (by rw[HN.out];simpa using hge)];exact hown1.setCell QJ _),((hbel.alloc QQ _).grown hgrow1 QY (fun k hk=>QDj)).setCell QJ _,by have:=hgrow1.size;simp at this ⊢;omega⟩
    case measure=>simp[intOf];omega
  ·obtain rfl:k=d:=by omega
   obtain⟨a1,n1,m1,rfl⟩:=hown.form;go_wp2;have D:=(hB0.set 0 (.slice a1 n1 m1)).set 1 (.int .i64 (at'-(o:Int)));obtain⟨q0,q1,-,-⟩:=Za.two D;rw[Z6 (by simp[JN])]at hown;refine ZC (v:=.tuple #[.agg #[.slice a1 n1 m1,.int .i64 (at'-(o:Int))],.int .i64 0]) (by simp[results,Tryz.results65,go_sem,q0,q1]) rfl ?_;exact⟨_,rfl,((hown.setCell QJ _).setCell QJ _).mono QQ,(hbel.setCell QJ _).setCell QJ _⟩
end Go.Proofs.YtmdnepkekekncaaGreat
