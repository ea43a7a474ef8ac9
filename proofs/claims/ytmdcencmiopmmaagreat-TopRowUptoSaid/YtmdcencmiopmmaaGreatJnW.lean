/- joined, no condition of its own. -/
import Derived.Test.YtmdcencmiopmmaaGreatJnJ14
import Derived.Test.YtmdcencmiopmmaaGreatJnJ30
import Derived.Test.YtmdcencmiopmmaaGreatJnJ31
import Derived.Test.YtmdcencmiopmmaaGreatJnJ33
import Derived.Test.YtmdcencmiopmmaaGreatJnV
import Derived.Test.YtmdcencmiopmmaaGreatJnJ34
import Derived.Test.YtmdcencmiopmmaaGreatJnJ36
import Derived.Test.YtmdcencmiopmmaaGreatJnJ38
import Derived.Test.YtmdcencmiopmmaaGreatJnJ39
import Derived.Test.YtmdcencmiopmmaaGreatJnJ1
import Derived.Test.YtmdcencmiopmmaaGreatJnJ2
import Derived.Test.YtmdcencmiopmmaaGreatJnJ8
import Derived.Test.YtmdcencmiopmmaaGreatRows
set_option linter.unusedVariables false
set_option linter.unusedSimpArgs false
set_option maxRecDepth 100000
set_option maxHeartbeats 12000000
namespace Go.Proofs.YtmdcencmiopmmaaGreat
open Go.RowKit
theorem Vw.ln{F:Nat->Prop}{w:World}{la:Option Addr}{ln lc:Nat}{most Zi:Int}{sv pv:Value}{older:Bool}{h:Hi}(r:Vw F w (.slice la ln lc) most Zi sv pv older h):h.ls.length=ln:=by
 obtain⟨vs,h1,h2⟩:=r.ls;obtain⟨a,n,c,e,g,-⟩:=h1;simp only[Xx]at e;obtain⟨rfl,rfl,rfl⟩:=e;rw[<-h2.1,g]
theorem DN(W0:World)(F G:Nat->Prop)(B:Nat)(S:SS)(w:World)(h:Yv F G w B S)(hn:S.told.length<=4398046511103):
  Calls Tryz.prog 48 #[.pointer (some ⟨B,0,none⟩),.int .i64 3] w (VP F G w B (S.key W0 3) YG):=by
 have HT:=Zy (uX F G B S 3 (.slice none 0 0) [] w h (Yf.nil _ _) hn);have he:S.key W0 3=({S.tell 3 []with now:=none,Z8:=⟨S.Z8.ls,S.Z8.most,S.Z8.ls.length,[],S.Z8.pat,S.Z8.older⟩}).Jt [] 1:=by unfold SS.key;rw[if_pos rfl]
 rw[he];clear he hn h;go_enter Tryz.func48,Tryz.ntmps48
 go_wp2_with fail
 refine HT.out.mono ?_;rintro e w2 ⟨rfl,hv⟩;obtain⟨F2,f2,hA2,-,-⟩:=hv.get;obtain⟨ru,z47⟩:=hA2.hf.m.blk.at 47;have hA3:=hA2.N9;obtain⟨la,ln,lc,sa,sn,sc,pa,pn,pc,hH,e37,e38,e39,e40,e41,e42⟩:=Ka hA3.hf;obtain⟨LY,-⟩:=hA3.hf.m.blk.at 37;obtain⟨x39,z39⟩:=hA3.hf.m.blk.at 39;obtain⟨LM,z40⟩:=hA3.hf.m.blk.at 40;rw[e37]at LY;have hln:=hH.ln;have hln:S.Z8.ls.length=ln:=hln;have nB:=hA3.hf.m.nB;have r1:=hH.UR (i:=39) (u:=.int .i64 (ln:Int)) nB;have UY:=hA3.store (S':={S.tell 3 []with now:=none,Z8:=⟨S.Z8.ls,S.Z8.most,S.Z8.ls.length,S.Z8.XQ,S.Z8.pat,S.Z8.older⟩}) 39 (.int .i64 (ln:Int))
  {hA3.hf.d with Z8:=⟨hA3.hf.d.Z8.ls,rfl,rfl,hA3.hf.d.Z8.XQ,hA3.hf.d.Z8.pat,rfl⟩,C8:=by rw[hln];rfl}
 have Kn:=UY.store (S':={S.tell 3 []with now:=none,Z8:=⟨S.Z8.ls,S.Z8.most,S.Z8.ls.length,[],S.Z8.pat,S.Z8.older⟩}) 40 (.slice none 0 0)
  {UY.hf.d with Z8:=⟨UY.hf.d.Z8.ls,rfl,rfl,Yf.nil _ _,UY.hf.d.Z8.pat,rfl⟩}
 have HB:=Zy (uP _ _ B _ none 0 0 [] 1 _ ⟨_,Kn.hf⟩ (Sl.nil _) QQ (.inr rfl));have SG:=Zy Kn;clear hA2 hA3 UY Kn hH e37 e38 e39 e40 e41 e42 hln nB r1 hv;go_wp2_with fail
 refine HB.out.mono ?_;rintro e w7 ⟨rfl,hv⟩;obtain⟨F7,f7,jP,-,-⟩:=SG.out.call hv;have HA7:=Zy jP;clear jP hv;go_wp2
 go_end0
 exact⟨rfl,HA7.out.done⟩
theorem Lg(W0:World)(F G:Nat->Prop)(B:Nat)(S:SS)(w:World)(h:Yv F G w B S)(hm:S.mode≠3)(hn:S.told.length<=4398046511103):
  Calls Tryz.prog 48 #[.pointer (some ⟨B,0,none⟩),.int .i64 4] w (VP F G w B (S.key W0 4) YG):=by
 have he:S.key W0 4=if 0<S.text.length then S.Yt else {S.tell 4 []with over:=true}:=by
  unfold SS.key;rw[if_neg QZ,if_neg hm,if_neg QZ,if_pos rfl]
 obtain⟨f,hf⟩:=h;have hA:=At.begin hf;obtain⟨p,hpt⟩:=hf.d.text.ptr;have c0:=hf.cell 0;have c2:=hf.cell 2;have htx:=hf.d.text;rw[hpt]at c0 htx;rw[hf.d.mode]at c2;have dX:(S.mode==3)=false:=by simpa using hm
 obtain⟨T,hT1,tC⟩:=htx;have HL:=Zy (vz p T w hT1.tree);have HT2:=Zy tC;have HA:=Zy hA;have HN:=Zy hn;have HE:=Zy he;clear hf hA hpt he hm hn hT1 tC;go_enter Tryz.func48,Tryz.ntmps48
 go_wp2_with fail
 refine HL.out.mono ?_;rintro e w2 ⟨rfl,hb2⟩;rw[HT2.out];have hA2:=HA.out.JA hb2;by_cases hz:0<S.text.length
 ·have h1:(0:Int)<(S.text.length:Int):=by omega
  have HB:=Zy (U2 _ _ B S w2 ⟨f,hA2.hf⟩ HN.out);have HA2:=Zy hA2;have HZ:=Zy hz;clear hA2 hb2 hz;go_wp2_with fail
  refine HB.out.mono ?_;rintro e w7 ⟨rfl,hv⟩;obtain⟨F7,f7,jP,-,-⟩:=HA2.out.call hv;go_wp2
  go_end0
  exact⟨rfl,by rw[HE.out,if_pos HZ.out];exact jP.done⟩
 ·have h0:S.text.length=0:=by omega
  have HB:=Zy (uX _ _ B S 4 (.slice none 0 0) [] w2 ⟨f,hA2.hf⟩ (Yf.nil _ _) HN.out);have HA2:=Zy hA2;have HZ:=Zy hz;rw[h0];clear hA2 hb2 hz h0;go_wp2_with fail
  refine HB.out.mono ?_;rintro e w7 ⟨rfl,hv⟩;obtain⟨F7,f7,jP,-,-⟩:=HA2.out.call hv;obtain⟨x55,z55⟩:=jP.hf.m.blk.at 55;have HA8:=Zy (jP.store (S':={S.tell 4 []with over:=true}) 55 (.bool true) {jP.hf.d with over:=rfl});clear jP hv;go_wp2
  go_end0
  exact⟨rfl,by rw[HE.out,if_neg HZ.out];exact HA8.out.done⟩
theorem yR(F G:Nat->Prop)(B:Nat)(S S':SS)(key:Int)(w:World)(k3:key≠3)(h:Yv F G w B S)(m:Bool)
  (hcase:(S.mode=3/\Calls Tryz.prog 84 #[.pointer (some ⟨B,0,none⟩),.int .i64 key] w (VP F G w B S' YG))\/
   (S.mode≠3/\(key=13\/key=10)/\Calls Tryz.prog 85 #[.pointer (some ⟨B,0,none⟩)] w (VP F G w B S' YG))\/
   (S.mode≠3/\S.mode≠0/\key≠13/\key≠10/\key≠4/\Calls Tryz.prog 88 #[.pointer (some ⟨B,0,none⟩),.int .i64 key] w (VP F G w B S' YG))):
  Calls Tryz.prog 48 #[.pointer (some ⟨B,0,none⟩),.int .i64 key] w (VP F G w B S' YG):=by
 obtain⟨f,hf⟩:=h;have c2:=hf.cell 2;rw[hf.d.mode]at c2;have e3:(key==3)=false:=by simpa using k3
 rcases hcase with⟨hm,hC⟩|⟨hm,hk,hC⟩|⟨hm,hm0,TQ,h10,h4,hC⟩
 ·rw[hm]at c2
  have HC:=Zy hC;clear hC hm hf k3;exact QD4
 ·have dX:(S.mode==3)=false:=by simpa using hm
  have HC:=Zy hC;clear hC hm hf k3;rcases hk with rfl|rfl
  all_goals
   exact QD4
 ·have dX:(S.mode==3)=false:=by simpa using hm
  have hmn:(S.mode !=0)=true:=by simpa using hm0
  have e13:(key==13)=false:=by simpa using TQ
  have e10:(key==10)=false:=by simpa using h10
  have e4:(key==4)=false:=QBD;have HC:=Zy hC;clear hC hm hf k3 hm0 TQ h10 h4;exact QD4
theorem GV(W0:World)(F G:Nat->Prop)(B K:Nat)(S:SS)(key:Int)(w:World)(h:Yv F G w B S)(hI:XW K S)(hm:S.mode=0)(h3:key≠3)(TQ:key≠13)(h10:key≠10)(h4:key≠4)(hK:K<=4398046511103)(hn:S.told.length+K+2<=4398046511103):
  Calls Tryz.prog 48 #[.pointer (some ⟨B,0,none⟩),.int .i64 key] w (VP F G w B (S.key W0 key) YG):=by
 have he:S.key W0 key=if(S.WX key).how=2 then({S with part:=(S.WX key).part}).command W0 (S.WX key).cmd else if(S.WX key).how=3 then({S with part:=(S.WX key).part}).Yt else {S with part:=(S.WX key).part}:=by
  unfold SS.key;rw[if_neg h3,if_neg QQ,if_neg QQ,if_neg h4,if_neg QQ]
 obtain⟨f,hf⟩:=h;have hA:=At.begin hf;have c2:=hf.cell 2;rw[hf.d.mode,hm]at c2;have c32:=hf.cell 32;have Kr:=hf.cell 33;have c34:=hf.cell 34;have xE:=hf.cell 35;have c36:=hf.cell 36;rw[hf.d.p0]at c32;rw[hf.d.p1]at Kr;rw[hf.d.p2]at c34;rw[hf.d.p3]at xE;rw[hf.d.p4]at c36;have e3:(key==3)=false:=QAt;have e13:(key==13)=false:=by simpa using TQ
 have e10:(key==10)=false:=by simpa using h10
 have e4:(key==4)=false:=QBD;have HT:=Zy (RU S.part.a S.part.b S.part.c S.part.d S.part.e key w hI.pt);have hTK:Ui S.part.a S.part.b S.part.c S.part.d S.part.e key=S.WX key:=rfl;rw[hTK]at HT;have hok:=Dt (key:=key) hI.pt;rw[hTK]at hok;have HE:=Zy he;have HA:=Zy hA;have HI:=Zy hI;have HN:=Zy hn;have HM:=Zy hm;have LD:=Zy hok;clear hf hA he hI hn hm hok hTK h3 TQ h10 h4;generalize S.WX key=t at *;go_enter Tryz.func48,Tryz.ntmps48
 go_wp2_with fail
 refine HT.out.mono ?_;rintro e w2 ⟨rfl,hb2⟩;unfold TK.q TK.c;have hA2:=HA.out.JA hb2;obtain⟨x32,z32⟩:=hA2.hf.m.blk.at 32;obtain⟨x33,z33⟩:=hA2.hf.m.blk.at 33;obtain⟨x34,z34⟩:=hA2.hf.m.blk.at 34;obtain⟨x35,z35⟩:=hA2.hf.m.blk.at 35;obtain⟨x36,z36⟩:=hA2.hf.m.blk.at 36;have hBl:=hA2.hf.uq;have hA3:=hA2.store (S':={S with part:=⟨t.q0,S.part.b,S.part.c,S.part.d,S.part.e⟩}) 32 (.int .i64 t.q0) {hA2.hf.d with p0:=rfl};have UY:=hA3.store (S':={S with part:=⟨t.q0,t.q1,S.part.c,S.part.d,S.part.e⟩}) 33 (.int .i64 t.q1) {hA3.hf.d with p1:=rfl};have Kn:=UY.store (S':={S with part:=⟨t.q0,t.q1,t.q2,S.part.d,S.part.e⟩}) 34 (.int .i64 t.q2) {UY.hf.d with p2:=rfl};have Vt:=Kn.store (S':={S with part:=⟨t.q0,t.q1,t.q2,t.q3,S.part.e⟩}) 35 (.int .i64 t.q3) {Kn.hf.d with p3:=rfl};have jP:=Vt.store (S':={S with part:=t.part}) 36 (.int .i64 t.q4) {Vt.hf.d with p4:=rfl};have qj:=jP.JA (Zo.alloc (o:=.cells #[.int .i64 t.c0,.int .i64 t.c1,.int .i64 t.c2,.int .i64 t.c3,.int .i64 t.c4] 87) (Zo.alloc (o:=.cells #[.int .i64 t.q0,.int .i64 t.q1,.int .i64 t.q2,.int .i64 t.q3,.int .i64 t.q4] 32) (ZH _ _)));have HA8:=Zy qj;clear hA2 hA3 UY Kn Vt jP qj hb2 c2 c32 Kr c34 xE c36;by_cases h2:t.how=2
 ·rw[h2]
  have HC:=Zy (Li W0 _ _ B K {S with part:=t.part} t.cmd _ ⟨_,HA8.out.hf⟩ {HI.out with pt:=LD.out.1} HM.out LD.out.2 hK HN.out);unfold TK.cmd at HC;have H2:=Zy h2;clear h2;go_wp2_with fail
  refine HC.out.mono ?_;rintro e w7 ⟨rfl,hv⟩;obtain⟨F7,f7,Wq,-,-⟩:=HA8.out.call hv;have HA9:=Zy Wq;clear Wq hv;go_wp2
  go_end0
  exact⟨rfl,by rw[HE.out,if_pos H2.out];exact HA9.out.done⟩
 ·by_cases h3:t.how=3
  ·rw[h3]
   have HC:=Zy (U2 _ _ B {S with part:=t.part} _ ⟨_,HA8.out.hf⟩ (Zh (Zh (Xg _ _) (Xg _ _)) HN.out));have H2:=Zy h2;have H3:=Zy h3;clear h2 h3;go_wp2_with fail
   refine HC.out.mono ?_;rintro e w7 ⟨rfl,hv⟩;obtain⟨F7,f7,Wq,-,-⟩:=HA8.out.call hv;have HA9:=Zy Wq;clear Wq hv;go_wp2
   go_end0
   exact⟨rfl,by rw[HE.out,if_neg H2.out,if_pos H3.out];exact HA9.out.done⟩
  ·have e2:(t.how==2)=false:=by simpa using h2
   have e5:(t.how==3)=false:=QAt;have H2:=Zy h2;have H3:=Zy h3;clear h2 h3;go_wp2
   go_end0
   exact⟨rfl,by rw[HE.out,if_neg H2.out,if_neg H3.out];exact HA8.out.done⟩
theorem QQP(W0:World)(F G:Nat->Prop)(B K:Nat)(S:SS)(key:Int)(w:World)(h:Yv F G w B S)(hI:XW K S)(hK:K<=4398046511103)(hn:S.told.length+K+2<=4398046511103):
  Calls Tryz.prog 48 #[.pointer (some ⟨B,0,none⟩),.int .i64 key] w (VP F G w B (S.key W0 key) YG):=by
 by_cases h3:key=3
 ·subst h3;exact DN W0 F G B S w h QQ
 by_cases dX:S.mode=3
 ·have he:S.key W0 key=S.asked key:=by unfold SS.key;rw[if_neg h3,if_pos dX]
  rw[he];exact yR F G B S _ key w h3 h true (.inl ⟨dX,TG F G B K S key w h hI QQ⟩)
 by_cases TQ:key=13\/key=10
 ·have he:S.key W0 key=S.accept:=by unfold SS.key;rw[if_neg h3,if_neg dX,if_pos TQ]
  rw[he];exact yR F G B S _ key w h3 h true (.inr (.inl ⟨dX,TQ,PY F G B S w h hI.tl hI.hi QQ⟩))
 by_cases h4:key=4
 ·subst h4;exact Lg W0 F G B S w h dX QQ
 by_cases hm0:S.mode=0
 ·exact GV W0 F G B K S key w h hI hm0 h3 QQ QQ h4 hK hn
 ·have he:S.key W0 key=S.typed key:=by unfold SS.key;rw[if_neg h3,if_neg dX,if_neg TQ,if_neg h4,if_pos hm0]
  rw[he];exact yR F G B S _ key w h3 h true (.inr (.inr ⟨dX,hm0,QQ,QQ,h4,uN F G B S key w h hI.tl hI.p0 (by have:=hI.p1;have:=hI.tl;omega) QQ (fun c ty e=>by have:=(hI.nw c ty e).2;omega)⟩))
def YL(c:Int)(s:List Int×Nat):List Int×Nat:=
 if c=8 then(s.1,s.2-1)else if c=13 then(s.1,0)
 else if c=11 then(s.1.take s.2++List.replicate (s.1.length-s.2) 32,s.2)
 else if 32<=c/\c≠127/\s.2<s.1.length then(s.1.set s.2 c,s.2+1)else s
theorem Dr(c:Int)(s:List Int×Nat)(h:s.2<=s.1.length):(YL c s).1.length=s.1.length/\(YL c s).2<=s.1.length:=by
 unfold YL;repeat' split
 all_goals simp
 all_goals omega
structure UD (base:Nat) (w:World) (g n c:Nat) (xs:List Int):Prop where
 lo:base<=g
 cells:∃cur:Array Value,w.heap[g]? =some (.cells cur 3 (0,0))/\n<=cur.size/\cur.toList.take n=xs.map (Value.int .i64)
 len:xs.length=n
 cap:n<=c
theorem UD.cell{base:Nat}{w:World}{g n c:Nat}{xs:List Int}(h:UD base w g n c xs){i:Nat}(hi:i<n):w.cell? ⟨g,i,none⟩=some (.int .i64 (ix xs i)):=by
 obtain⟨cur,h1,h2,h3⟩:=h.cells;have hl:=h.len;have h4:cur.toList[i]? =some (.int .i64 (ix xs i)):=by
  have:(cur.toList.take n)[i]? =(xs.map (Value.int .i64))[i]?:=by rw[h3]
  rw[List.getElem?_take,if_pos hi]at this;rw[this];simp[ix,hl,hi]
 simp[World.cell?,h1];simpa using h4
theorem UD.free{base:Nat}{w:World}{g n c:Nat}{xs:List Int}(h:UD base w g n c xs)(i:Nat):w.frozen? ⟨g,i,none⟩=false:=by
 obtain⟨cur,h1,_⟩:=h.cells;simp[World.frozen?,h1]
theorem UD.ints{base:Nat}{w:World}{g n c:Nat}{xs:List Int}(h:UD base w g n c xs):Ints w (some ⟨g,0,none⟩) xs:=
 .inr ⟨g,0,rfl,fun i hi=>by rw[XN];exact h.cell (by rw[h.len]at hi;exact hi)⟩
theorem UD.set{base:Nat}{w:World}{g n c:Nat}{xs:List Int}(h:UD base w g n c xs)(i:Nat)(x:Int):UD base (w.setCell ⟨g,i,none⟩ (.int .i64 x)) g n c (xs.set i x):=by
 obtain⟨cur,h1,h2,h3⟩:=h.cells;refine⟨h.lo,⟨cur.setIfInBounds i (.int .i64 x),Za.set (B:=g) (e:=3) h1 i _,QA0,?_⟩,by simpa using h.len,h.cap⟩;rw[Array.toList_setIfInBounds,List.map_set,<-h3,List.take_set]
theorem UD.other{base:Nat}{w:World}{g n c:Nat}{xs:List Int}(h:UD base w g n c xs){a:Addr}(ha:g≠a.block)(u:Value):UD base (w.setCell a u) g n c xs:=by
 obtain⟨cur,h1,h2,h3⟩:=h.cells;exact⟨h.lo,⟨cur,Za.other (e:=3) h1 ha u,h2,h3⟩,h.len,h.cap⟩
theorem UD.alloc{base:Nat}{w:World}{g n c:Nat}{xs:List Int}(h:UD base w g n c xs)(o:Obj):UD base (w.alloc o) g n c xs:=by
 obtain⟨cur,h1,h2,h3⟩:=h.cells;exact⟨h.lo,⟨cur,Za.alloc (e:=3) h1 o,h2,h3⟩,h.len,h.cap⟩
theorem UD.mono{base base':Nat}{w:World}{g n c:Nat}{xs:List Int}(h:UD base w g n c xs)(hb:base'<=base):UD base' w g n c xs:=⟨Zh hb h.lo,h.cells,h.len,h.cap⟩
theorem UD.drewN{base:Nat}{w:World}{g n c:Nat}{xs:List Int}(h:UD base w g n c xs)(k:Nat):UD base (w.drewN k) g n c xs:=⟨h.lo,h.cells,h.len,h.cap⟩
theorem Own.QYt{base:Nat}{w:World}{g n c:Nat}{xs:List Int}(h:Own 3 base w (.slice (some ⟨g,0,none⟩) n c) xs):UD base w g n c xs:=by
 have hl:=h.get.1;rcases h.2 with⟨h1,_⟩|⟨g',cap,cur,h1,h2,h3,h4,h5,h6,h7⟩
 ·simp at h1
 ·simp only[Xx,ZM,YB]at h1
  obtain⟨⟨rfl,_,_⟩,_,rfl⟩:=h1;rw[hl]at h7 h4;exact⟨h2,⟨cur,h3,QQ,by rw[Nat.mul_one]at h7;exact h7⟩,hl,h4⟩
theorem QJu(w:World)(x:Int):Ints (w.alloc (.cells #[.int .i64 x] 3)) (some ⟨w.heap.size,0,none⟩) [x]:=
 .inr ⟨_,_,rfl,fun i hi=>by
  obtain rfl:i=0:=QAs;exact Y8 w (.int .i64 x) 3⟩
theorem Dp(k:Int)(w:World)(hk:k<2\/120<k):
  Calls Tryz.prog 30 #[.int .i64 k] w fun e w'=>e=.returned (.tuple #[.agg #[.slice none 0 0,.int .i64 0],.int .i64 1])/\Below w.heap.size w w':=by
 have hA:=Za.new w #[.slice none 0 0,.int .i64 0] 39;have hb:=ZT w (.cells #[.slice none 0 0,.int .i64 0] 39);obtain⟨y0,y1,-,-⟩:=hA.two;by_cases h:k<2
 all_goals
  go_enter Tryz.func30,Tryz.ntmps30
  go_wp2;refine ZC (v:=.tuple #[.agg #[.slice none 0 0,.int .i64 0],.int .i64 1]) (by simp[results,Tryz.results30,go_sem,y0,y1]) rfl ?_;exact⟨rfl,hb⟩
theorem ax(k:Nat):qJ [32] k=List.replicate k 32:=by
 induction k with
 | zero=>rfl
 | succ k ih=>rw[List.replicate_succ,<-ih];simp[qJ,List.replicate_succ]
def pI(k:Nat)(w:World)(e:Ending)(w':World):Prop:=
 ∃v,e=.returned (.tuple #[.agg #[v,.int .i64 0],.int .i64 0])/\Own 3 w.heap.size w' v (List.replicate k 32)/\Below w.heap.size w w'
theorem GH(k:Nat)(w:World)(h1:2<=k)(h2:k<=120):
  Calls Tryz.prog 30 #[.int .i64 (k:Int)] w (pI k w):=by
 go_enter Tryz.func30,Tryz.ntmps30
 go_wp2_with fail
 have hI:=QJu (w.alloc (.cells #[.slice none 0 0,.int .i64 0] 39)) 32;rw[Zv]at hI;have hk4:k<=4096:=QQ;have h14:1<=4096:=QZ;have hc:=Vh _ 1 1 k [32] _ hI rfl hk4 h14;refine hc.mono ?_;rintro e w2 ⟨v,rfl,hown,hb2⟩;obtain⟨av,nv,cv,rfl⟩:=hown.form;rw[ax]at hown;rw[Zv,Zv]at hown;have hA:=Za.below ((Za.new w #[.slice none 0 0,.int .i64 0] 39).alloc (.cells #[.int .i64 32] 3)) hb2 QY;obtain⟨d0,d1,g0,g1⟩:=hA.two;have hb:=ZE (Zn w (.cells #[.slice none 0 0,.int .i64 0] 39) (.cells #[.int .i64 32] 3)) QY hb2;go_wp2;have hG:=((hA.set 0 (.slice av nv cv)).set 1 (.int .i64 0));obtain⟨y0,y1,-,-⟩:=Za.two hG;refine ZC (v:=.tuple #[.agg #[.slice av nv cv,.int .i64 0],.int .i64 0]) (by simp[results,Tryz.results30,go_sem,y0,y1]) rfl ?_;exact⟨_,rfl,((hown.setCell QY _).setCell QY _).mono QQ,(hb.setCell (p:=⟨w.heap.size,0,none⟩) (ZB _) _).setCell (p:=⟨w.heap.size,1,none⟩) (ZB _) _⟩
def Kb(xs:List Int)(p j:Nat):List Int:=xs.take p++(List.replicate (j-p) 32++xs.drop j)
theorem xW(xs:List Int)(p j:Nat)(h1:p<=j)(h2:j<=xs.length):(Kb xs p j).length=xs.length:=by simp[Kb];omega
theorem jS(xs:List Int)(p j i:Nat)(h1:p<=j)(h2:j<=xs.length):ix (Kb xs p j) i=if i<p then ix xs i else if i<j then 32 else ix xs i:=by
 have hp:(xs.take p).length=p:=QY;have hr:(List.replicate (j-p) (32:Int)).length=j-p:=QJ;by_cases e1:i<p
 ·rw[if_pos e1];unfold Kb;rw[YN QQ];simp[ix,e1]
 ·rw[if_neg e1]
  obtain⟨k,rfl⟩:∃k,i=p+k:=⟨i-p,QQ⟩;unfold Kb;have hpk:p+k=(xs.take p).length+k:=by rw[hp]
  rw[hpk,KN];by_cases e2:(xs.take p).length+k<j
  ·rw[if_pos e2,YN QQ,Yw QQ];simp
  ·rw[if_neg e2]
   obtain⟨m,rfl⟩:∃m,k=(List.replicate (j-p) (32:Int)).length+m:=⟨k-(j-p),by rw[hr];omega⟩;rw[KN,hr,hp];simp only[ix,Zf,List.getElem?_drop];rw[show p+(j-p+m)=j+m from QQ]
theorem II(xs:List Int)(p:Nat)(h:p<=xs.length):Kb xs p p=xs:=by simp[Kb]
theorem IL(xs:List Int)(p j:Nat)(h1:p<=j)(h2:j<xs.length):(Kb xs p j).set j 32=Kb xs p (j+1):=by
 have hl:=xW xs p j h1 QQ;refine zt (by rw[X4,hl,xW _ _ _ QQ QQ]) fun i hi=>?_
 rw[jS _ _ _ _ QQ QQ];by_cases e:i=j
 ·subst e;rw[Eo (by rw[hl];exact h2),if_neg QQ,if_pos QQ]
 ·rw[En (fun h=>e h.symm),jS _ _ _ _ h1 QQ]
  by_cases e1:i<p
  ·rw[if_pos e1,if_pos e1]
  ·rw[if_neg e1,if_neg e1]
   by_cases e2:i<j
   ·rw[if_pos e2,if_pos QQ]
   ·rw[if_neg e2,if_neg QQ]
theorem Ab(xs:List Int)(p:Nat):Kb xs p xs.length=xs.take p++List.replicate (xs.length-p) 32:=by simp[Kb]
def pF(base B g n c:Nat)(s:List Int×Nat)(w:World)(e:Ending)(w':World):Prop:=
 e=.returned (.tuple #[])/\Za w' B #[.slice (some ⟨g,0,none⟩) n c,.int .i64 (s.2:Int)] 39/\UD base w' g n c s.1/\Below base w w'
def JD(l:List Int)(s:List Int×Nat):Nat->List Int×Nat
 | 0=>s
 | k+1=>YL (ix l k) (JD l s k)
theorem GI(l:List Int)(s:List Int×Nat)(k:Nat)(h:s.2<=s.1.length):(JD l s k).1.length=s.1.length/\(JD l s k).2<=s.1.length:=by
 induction k with
 | zero=>exact⟨rfl,h⟩
 | succ k ih=>
  have:=Dr (ix l k) (JD l s k) (by rw[ih.1];exact ih.2);simp only[JD];rw[ih.1]at this;exact this
structure xx (w2 W:World) (B g n c p:Nat) (xs:List Int):Prop where
 blk:Za W B #[.slice (some ⟨g,0,none⟩) n c,.int .i64 (p:Int)] 39
 row:UD w2.heap.size W g n c xs
 ne:g≠B
 lo:w2.heap.size<=B
 YX:Below w2.heap.size w2 W
theorem xx.late{w2 w8:World}{g n c p:Nat}{xs:List Int}(o8:Own 3 w2.heap.size w8 (.slice (some ⟨g,0,none⟩) n c) xs)(hb:Below w2.heap.size w2 w8)(hg:g<w8.heap.size):
  xx w2 (w8.alloc (.cells #[.slice (some ⟨g,0,none⟩) n c,.int .i64 (p:Int)] 39)) w8.heap.size g n c p xs:=
 ⟨Za.new _ _ _,o8.QYt.alloc _,QQ,hb.size,hb.alloc hb.size _⟩
theorem xx.early{w2 w8:World}{g n c p:Nat}{xs:List Int}(o8:Own 3 (w2.alloc (.cells #[.slice none 0 0,.int .i64 0] 39)).drew.heap.size w8 (.slice (some ⟨g,0,none⟩) n c) xs)(hb:Below (w2.alloc (.cells #[.slice none 0 0,.int .i64 0] 39)).drew.heap.size (w2.alloc (.cells #[.slice none 0 0,.int .i64 0] 39)).drew w8)
  (hQ:Za w8 w2.heap.size #[.slice none 0 0,.int .i64 0] 39):
  xx w2 ((w8.setCell ⟨w2.heap.size,0,none⟩ (.slice (some ⟨g,0,none⟩) n c)).setCell ⟨w2.heap.size,1,none⟩ (.int .i64 (p:Int))) w2.heap.size g n c p xs:=by
 have hs:(w2.alloc (.cells #[.slice none 0 0,.int .i64 0] 39)).drew.heap.size=w2.heap.size+1:=Zv _ _;rw[hs]at o8 hb;have h:=o8.QYt;have hlo:=h.lo;have hb2:Below w2.heap.size w2 w8:=(ZT w2 _).drew.trans (hb.mono QQ);exact⟨(hQ.set 0 _).set 1 _,((h.other (by show g≠w2.heap.size;omega) _).other (by show g≠w2.heap.size;omega) _).mono QQ,QQ,ZB _,(hb2.setCell (p:=⟨w2.heap.size,0,none⟩) (ZB _) _).setCell (p:=⟨w2.heap.size,1,none⟩) (ZB _) _⟩
def fC(n:Nat)(s:List Int×Nat)(w:World)(e:Ending)(w':World):Prop:=
 ∃g c,e=.returned (.tuple #[.agg #[.slice (some ⟨g,0,none⟩) n c,.int .i64 (s.2:Int)],.int .i64 0])/\Ints w' (some ⟨g,0,none⟩) s.1/\Below w.heap.size w w'
def Vg(l:List Int)(s:List Int×Nat):List Int×Nat:=l.foldl (fun s c=>YL c s) s
theorem Kc(l m:List Int)(s:List Int×Nat):Vg (l++m) s=Vg m (Vg l s):=by simp[Vg]
theorem uh(l:List Int)(s:List Int×Nat):∀k,k<=l.length->JD l s k=Vg (l.take k) s
 | 0,_=>rfl
 | k+1,hk=>by
  rw[JD,uh l s k QQ,XX QQ,Kc,Yw QQ];rfl
theorem iH{c:Int}{X:List Int}{p:Nat}(hc:Ud c=false)(hp:p<X.length):YL c (X,p)=(X.set p c,p+1):=by
 have h:32<=c/\c≠127:=by simpa[Ud]using hc
 unfold YL;rw[if_neg QQ,if_neg QQ,if_neg QQ,if_pos ⟨h.1,h.2,hp⟩]
theorem yf{B X:List Int}{n f:Nat}(hB:B.length=n)(hX:X.length=n)(hb:∀i,i<n->Ud (ix B i)=false):∀m,f+m<=n->∃X',Vg ((B.take (f+m)).drop f) (X,f)=(X',f+m)/\X'.length=n/\∀i,ix X' i=if f<=i/\i<f+m then ix B i else ix X i
 | 0,_=>⟨X,by simp[Vg],hX,fun i=>by rw[if_neg QQ]⟩
 | m+1,h=>by
  obtain⟨X',h1,h2,h3⟩:=yf (f:=f) hB hX hb m QQ;have e:(B.take (f+(m+1))).drop f=(B.take (f+m)).drop f++[ix B (f+m)]:=by
   rw[show f+(m+1)=(f+m)+1 from rfl,XX QQ,List.drop_append_of_le_length QY,Yw QQ]
  refine⟨X'.set (f+m) (ix B (f+m)),?_,by simp[h2],fun i=>?_⟩
  ·rw[e,Kc,h1];exact iH (hb _ QQ) QQ
  ·by_cases hi:i=f+m
   ·subst hi;rw[Eo QQ,if_pos QQ]
   ·rw[En (fun e=>hi e.symm),h3]
    by_cases c:f<=i/\i<f+m
    ·rw[if_pos c,if_pos QQ]
    ·rw[if_neg c,if_neg QQ]
theorem GA{X:List Int}:∀m p,Vg (List.replicate m 8) (X,p)=(X,p-m)
 | 0,p=>rfl
 | m+1,p=>by
  rw[List.replicate_succ];show Vg (List.replicate m 8) (YL 8 (X,p))=_;rw[show YL 8 (X,p)=(X,p-1)from rfl,GA m (p-1),Nat.sub_sub,Nat.add_comm 1 m]
theorem iG{B X:List Int}{n f t:Nat}(hB:B.length=n)(hX:X.length=n)(hb:∀i,i<n->Ud (ix B i)=false)(hf:f<=n)(ht:t<=n):
  ∃X',Vg (YH B f t) (X,f)=(X',t)/\X'.length=n/\(∀i,ix X i=ix B i->ix X' i=ix B i)/\∀i,f<=i->i<t->ix X' i=ix B i:=by
 unfold YH;by_cases c:f<=t
 ·rw[if_pos c]
  obtain⟨X',h1,h2,h3⟩:=yf (f:=f) hB hX hb (t-f) QQ;rw[show f+(t-f)=t from QQ]at h1 h3;exact⟨X',h1,h2,fun i hi=>by rw[h3];split;rfl;exact hi,fun i a b=>by rw[h3,if_pos ⟨a,b⟩]⟩
 ·rw[if_neg c]
  by_cases c2:f-t<=1+t
  ·rw[if_pos c2,GA]
   exact⟨X,by rw[show f-(f-t)=t from QQ],hX,fun i hi=>hi,fun i a b=>QQ⟩
  ·rw[if_neg c2]
   obtain⟨X',h1,h2,h3⟩:=yf (f:=0) hB hX hb t QQ;rw[XN,List.drop_zero]at h1;refine⟨X',?_,h2,fun i hi=>by rw[h3];split;rfl;exact hi,fun i a b=>QQ⟩;show Vg (B.take t) (YL 13 (X,f))=_;rw[show YL 13 (X,f)=(X,0)from rfl];exact h1
structure Rk (A B:List Int) (n pa:Nat) (s:Nat×List Int) (P:Nat->Prop):Prop where
 le:s.1<=n
 ex:∃X,Vg s.2 (A,pa)=(X,s.1)/\X.length=n/\∀i,i<n->(ix A i=ix B i\/P i)->ix X i=ix B i
theorem Rk.nil{A B:List Int}{n pa:Nat}(hA:A.length=n)(hp:pa<=n):Rk A B n pa (pa,[]) (fun _=>False):=
 ⟨hp,A,rfl,hA,fun i _ h=>h.elim id False.elim⟩
theorem Rk.go{A B:List Int}{n pa:Nat}{s:Nat×List Int}{P:Nat->Prop}(h:Rk A B n pa s P)(hB:B.length=n)(hb:∀i,i<n->Ud (ix B i)=false)(k:Nat)(hk:k<=n):Rk A B n pa (goS B k s) (fun i=>P i\/(s.1<=i/\i<k)):=by
 obtain⟨h0,X,h1,h2,h3⟩:=h;obtain⟨X',g1,g2,g3,g4⟩:=iG (t:=k) hB h2 hb h0 hk;refine⟨hk,X',?_,g2,fun i hi hp=>?_⟩
 ·show Vg (s.2++YH B s.1 k) (A,pa)=_
  rw[Kc,h1];exact g1
 ·rcases hp with hp|hp|hp
  ·exact g3 i (h3 i hi (.inl hp))
  ·exact g3 i (h3 i hi (.inr hp))
  ·exact g4 i hp.1 hp.2
theorem Rk.QVj{A B:List Int}{n pa p:Nat}{l:List Int}{P:Nat->Prop}(h:Rk A B n pa (p,l) P)(hw:∀i,p<=i->i<n->ix B i=32):Rk A B n pa (p,l++[11]) (fun i=>P i\/p<=i):=by
 obtain⟨h0,X,h1,h2,h3⟩:=h;dsimp only at h0 h1;have he:X.take p++List.replicate (X.length-p) 32=Kb X p X.length:=(Ab X p).symm;refine⟨h0,Kb X p X.length,?_,by rw[xW _ _ _ QQ (ZB _)];exact h2,fun i hi hp=>?_⟩
 ·dsimp only
  rw[Kc,h1,<-he];rfl
 ·rw[jS _ _ _ _ QQ (ZB _)]
  by_cases c:i<p
  ·rw[if_pos c]
   rcases hp with hp|hp|hp
   ·exact h3 i hi (.inl hp)
   ·exact h3 i hi (.inr hp)
   ·omega
  ·rw[if_neg c,if_pos QQ]
   exact(hw i QQ hi).symm
theorem Rk.fill{A B:List Int}{n pa:Nat}{s:Nat×List Int}{P:Nat->Prop}(h:Rk A B n pa s P)(hB:B.length=n)(hb:∀i,i<n->Ud (ix B i)=false)(x y:Nat)(hxy:x<=y)(hy:y<=n):Rk A B n pa (Tc B s (x,some y)) (fun i=>P i\/(x<=i/\i<y)):=by
 have h1:=(h.go hB hb x QQ).go hB hb y hy;exact QEM
theorem Rk.Tv{A B:List Int}{n pa:Nat}{s:Nat×List Int}{P:Nat->Prop}(h:Rk A B n pa s P)(hB:B.length=n)(hb:∀i,i<n->Ud (ix B i)=false)(p:Nat)(hp:p<=n)(hw:∀i,p<=i->i<n->ix B i=32):Rk A B n pa (Tc B s (p,none)) (fun i=>P i\/p<=i):=by
 have h1:=(h.go hB hb p hp).QVj hw;exact QEM
theorem Rk.done{A B:List Int}{n pa pb:Nat}{s:Nat×List Int}{P:Nat->Prop}(h:Rk A B n pa s P)(hB:B.length=n)(hb:∀i,i<n->Ud (ix B i)=false)(hp:pb<=n)(hall:∀i,i<n->ix A i=ix B i\/P i):Vg (goS B pb s).2 (A,pa)=(B,pb):=by
 obtain⟨X,g1,g2,g3⟩:=(h.go hB hb pb hp).ex;rw[g1,zt (xs:=X) (ys:=B) (by rw[g2,hB]) fun i hi=>g3 i QQ (by rcases hall i QQ with h|h;exact .inl h;exact .inr (.inl h))];rfl
theorem R8(b:List Int):∀l:List (List Int),KZ b l=b\/KZ b l∈l:=by
 intro l;induction l generalizing b with
 | nil=>exact .inl rfl
 | cons s l ih=>
  show KZ (Jc b s) l=b\/_;show KZ (Jc b s) l=b\/KZ (Jc b s) l∈s::l;rcases ih (Jc b s)with h|h
  ·rw[h]
   unfold Jc;split
   ·exact .inr (Zb.2 (.inl rfl))
   ·exact .inl rfl
  ·exact .inr (List.mem_cons_of_mem _ h)
theorem R9(b:List Int):∀l:List (List Int),(KZ b l).length<=b.length:=by
 intro l;induction l generalizing b with
 | nil=>exact ZB _
 | cons s l ih=>
  refine Zh (ih (Jc b s)) ?_;unfold Jc;split<;>omega
theorem j5{lo hi full:Nat}{p:List (Nat×Option Nat)}:∀{m:Nat},p∈U3 lo hi full m->∃k,k<m/\p∈VO lo hi (full+k)
 | 0,h=>QBQ
 | m+1,h=>by
  rcases XL.1 h with h|h
  ·obtain⟨k,h1,h2⟩:=j5 h
   exact⟨k,QQ,h2⟩
  ·exact⟨m,QQ,h⟩
theorem Hy{A B:List Int}{n pa pb full x y lo hi fi la:Nat}(H:Uf A B n full x y lo hi fi la)(hA:A.length=n)(hB:B.length=n)(hb:∀i,i<n->Ud (ix B i)=false)(gF:pa<=n)(hpb:pb<=n):
  Vg (Um B pa pb x y full lo hi fi la) (A,pa)=(B,pb):=by
 have h0:=Rk.nil (B:=B) hA gF;obtain⟨_,hxy,hyn,hlo,hhi,_,hnone⟩:=H.all;have hone:x<y->Vg (zI B pa [(x,some y)] pb) (A,pa)=(B,pb):=fun h=>
  (h0.fill hB hb x y hxy hyn).done hB hb hpb fun i hi=>by
   by_cases c1:i<x
   ·exact .inl (hlo i (Z0 _) c1)
   ·by_cases c2:i<y
    ·exact .inr (.inr ⟨QQ,c2⟩)
    ·exact .inl (hhi i QQ hi)
 unfold Um;by_cases hx:x<y
 ·rw[if_pos hx]
  by_cases hf:fi<la
  ·rw[if_pos hf]
   rcases R8 (zI B pa [(x,some y)] pb) ((U3 lo hi full (fi+1-full)).map (fun p=>zI B pa p pb))with h|h
   ·rw[h];exact hone hx
   ·obtain⟨p,hp,he⟩:=List.mem_map.1 h
    rw[<-he];obtain⟨k,hk,hp⟩:=j5 hp;have tfx:=H.tail.fx;have txy:=H.tail.xy;have tyt:=H.tail.yt;have hw:∀i,full+k<=i->i<n->ix B i=32:=fun i h1 h2=>H.Ik.blank i QQ h2
    have hkn:full+k<=n:=QQ;have hhn:hi<=n:=Zh H.head.yt H.Ik.le;have sP:∀i,i<n->full<=i->i<full+k->ix A i=ix B i:=fun i _ h1 h2=>H.tail.lo i h1 QQ
    unfold VO at hp;by_cases hl:lo<hi
    ·rw[if_pos hl]at hp
     have QJ7:∀i,i<n->ix A i=ix B i\/(full+k<=i\/(lo<=i/\i<hi)):=fun i h=>by
      by_cases c1:full+k<=i
      ·exact .inr (.inl c1)
      ·by_cases c2:full<=i
       ·exact .inl (sP i h c2 QQ)
       ·by_cases c3:i<lo
        ·exact .inl (H.head.lo i (Z0 _) c3)
        ·by_cases c4:i<hi
         ·exact .inr (.inr ⟨QQ,c4⟩)
         ·exact .inl (H.head.hi i QQ QQ)
     simp only[Zb,List.mem_nil_iff,or_false]at hp;rcases hp with rfl|rfl
     ·exact((h0.fill hB hb lo hi QQ hhn).Tv hB hb (full+k) hkn hw).done hB hb hpb fun i h=>by
       rcases QJ7 i h with h|h|h
       ·exact .inl h
       ·exact .inr (.inr h)
       ·exact .inr (.inl (.inr h))
     ·exact((h0.Tv hB hb (full+k) hkn hw).fill hB hb lo hi QQ hhn).done hB hb hpb fun i h=>by
       rcases QJ7 i h with h|h|h
       ·exact .inl h
       ·exact .inr (.inl (.inr h))
       ·exact .inr (.inr h)
    ·rw[if_neg hl]at hp
     simp only[Zb,List.mem_nil_iff,or_false]at hp;subst hp;have hlo:lo=full:=H.head.none (by have:=H.head.xy;omega);exact(h0.Tv hB hb (full+k) hkn hw).done hB hb hpb fun i h=>by
      by_cases c1:full+k<=i
      ·exact .inr (.inr c1)
      ·by_cases c2:full<=i
       ·exact .inl (sP i h c2 QQ)
       ·exact .inl (H.head.lo i (Z0 _) QQ)
  ·rw[if_neg hf];exact hone hx
 ·rw[if_neg hx]
  have JK:x=n:=hnone QQ;exact h0.done hB hb hpb fun i hi=>.inl (hlo i (Z0 _) QQ)
theorem zZ{B:List Int}{n f t:Nat}(hB:B.length=n)(hf:f<=n)(ht:t<=n):(YH B f t).length<=n+1:=by
 unfold YH;split
 ·simp;omega
 ·split
  ·simp;omega
  ·simp;omega
theorem Po{A B:List Int}{n pa pb full x y lo hi fi la:Nat}(H:Uf A B n full x y lo hi fi la)(hB:B.length=n)(gF:pa<=n)(hpb:pb<=n):(Um B pa pb x y full lo hi fi la).length<=3*n+3:=by
 have hxy:=H.all.xy;have hyn:=H.all.yt;have h1:=zZ (f:=pa) (t:=pb) hB gF hpb;have h2:=zZ (f:=pa) (t:=x) hB gF QQ;have h3:=zZ (f:=x) (t:=y) hB QQ hyn;have h4:=zZ (f:=y) (t:=pb) hB hyn hpb;obtain⟨e1,e2,e3⟩:=Cf B pa pb x y full lo hi fi la;rcases Z7 x y with hx|hx
 ·rcases Z7 fi la with hf|hf
  ·rw[e3 hx hf]
   refine Zh (R9 _ _) ?_;simp only[Zd,List.length_nil];omega
  ·rw[e2 hx hf]
   simp only[Zd,List.length_nil];omega
 ·rw[e1 hx]
  simp only[Zd,List.length_nil];omega
theorem Uf.some(A B:List Int)(n:Nat)(h2:2<=n)(Ra:n<=120):∃r:Nat×Nat×Nat×Nat×Nat×Nat×Nat,Uf A B n r.1 r.2.1 r.2.2.1 r.2.2.2.1 r.2.2.2.2.1 r.2.2.2.2.2.1 r.2.2.2.2.2.2:=by
 obtain⟨full,hfull⟩:=O1.exists B n;obtain⟨x,y,hxy⟩:=FE.exists A B 0 n (Z0 _);obtain⟨lo,hi,hlh⟩:=FE.exists A B 0 full (Z0 _);obtain⟨fi,la,hfl⟩:=FE.exists A B full n hfull.le;exact⟨(full,x,y,lo,hi,fi,la),h2,Ra,hfull,hxy,hlh,hfl⟩
theorem OY(A B:List Int)(pa pb n:Nat)(hA:A.length=n)(h2:2<=n)(Ra:n<=120):
  ∃full x y lo hi fi la,Uf A B n full x y lo hi fi la/\Gd A pa B pb=Um B pa pb x y full lo hi fi la:=by
 subst hA;have h:=Classical.epsilon_spec (Uf.some A B A.length h2 Ra);exact⟨_,_,_,_,_,_,_,h,rfl⟩
theorem VL{xs:List Int}{p:Int}(h:J9 xs p=0):2<=xs.length/\xs.length<=120/\0<=p/\p<=xs.length/\∀i,i<xs.length->Ud (ix xs i)=false:=by
 unfold J9 at h;split at h
 ·exact absurd h QZ
 ·rename_i h1
  split at h
  ·exact absurd h QZ
  ·rename_i h2
   refine⟨QQ,QQ,QQ,QQ,fun i hi=>?_⟩;cases hb:Ud (ix xs i)
   ·rfl
   ·rw[Yw hi]at hb
    exact absurd (List.any_eq_true.2 ⟨_,YK hi,hb⟩) QA0
theorem vZ{K:Nat}{S:SS}(h:XW K S):Vg (Gd S.row S.rat.toNat S.show.row S.show.rat.toNat) (S.row,S.rat.toNat)=(S.show.row,S.show.rat.toNat)/\(Gd S.row S.rat.toNat S.show.row S.show.rat.toNat).length<=363:=by
 have h1:=VL h.re;have h2:=VL h.show.re;have hw:=h.rw_;have hl:S.show.row.length=S.row.length:=by
  show(KP S.text (XE S.pos S.off S.width) S.width).length=_
  rw[JO];omega
 obtain⟨full,x,y,lo,hi,fi,la,H,e⟩:=OY S.row S.show.row S.rat.toNat S.show.rat.toNat S.row.length rfl h1.1 h1.2.1;rw[e];refine⟨Hy H rfl hl (fun i hi=>h2.2.2.2.2 i QQ) QQ QQ,?_⟩;have:=Po H hl (pa:=S.rat.toNat) (pb:=S.show.rat.toNat) QQ QQ;omega
theorem PQ(n at' off width:Int)(w:World):
  Calls Tryz.prog 66 #[.int .i64 n,.int .i64 at',.int .i64 off,.int .i64 width] w fun e w'=>e=.returned (.int .i64 (if(Kt n at' off width).2=0/\(Kt n at' off width).1≠off then 1 else(Kt n at' off width).2))/\w=w':=by
 generalize hv:Kt n at' off width=v;have HV:=Zy hv;clear hv;go_enter Tryz.func66,Tryz.ntmps66
 go_wp2_with fail
 refine(qC n at' off width w).mono ?_;rintro e w' ⟨rfl,rfl⟩;rw[HV.out];go_wp2
 all_goals(go_ret;refine⟨XA ?_,rfl⟩;(try simp_all);done)
theorem Lm{n at' off width:Int}(h0:n<=200)(h1:0<=at')(h2:at'<=n)(h3:0<=off)(h4:off<=200)(h5:2<=width)(h6:width<=120):Kt n at' off width=(XE at' off width,0):=by
 unfold Kt XE;rw[if_neg QQ]
 (repeat' split)<;>rfl
theorem DF(n at' off width:Int)(w:World)(h0:n<=200)(h1:0<=at')(h2:at'<=n)(h3:0<=off)(h4:off<=200)(h5:2<=width)(h6:width<=120)(hs:XE at' off width=off):
  Calls Tryz.prog 66 #[.int .i64 n,.int .i64 at',.int .i64 off,.int .i64 width] w fun e w'=>e=.returned (.int .i64 0)/\w=w':=by
 refine(PQ n at' off width w).mono ?_;rintro e w' ⟨rfl,rfl⟩;rw[Lm h0 h1 h2 h3 h4 h5 h6];exact⟨XA (by simp[hs]),rfl⟩
def pz(l:List Int)(at' off width err:Int)(w:World)(e:Ending)(w':World):Prop:=
 ∃v,e=.returned (.tuple #[.agg #[v,.int .i64 (at'-off)],.int .i64 err])/\Own 3 w.heap.size w' v (KP l off width)/\Below w.heap.size w w'
theorem jl(a:Option Addr)(n c:Nat)(l:List Int)(at' off width:Int)(w:World)(hl:Ints w a l)(hn:l.length=n)(hn2:n<=200)(h1:0<=at')(h2:at'<=n)(hs:XE at' off width=off)(h3:0<=off)(h4:off<=200)(h5:2<=width)(h6:width<=120):
  Calls Tryz.prog 32 #[.slice a n c,.int .i64 at',.int .i64 off,.int .i64 width] w (pz l at' off width 0 w):=by
 have HN:=Zy hn;clear hn;obtain⟨o,rfl⟩:=Z9 h3;obtain⟨d,rfl⟩:=Z9 (show 0<=width from QQ);have HS:=Zy hs;clear hs;go_enter Tryz.func32,Tryz.ntmps32
 go_wp2_with fail
 refine(DF _ _ _ _ _ QQ QQ QQ QQ QQ QQ QQ HS.out).mono ?_;rintro e w' ⟨rfl,rfl⟩;go_wp2
 go_loopw [33] (fun i wr=>∃k:Nat,i=.int .i64 (k:Int)/\k<=d/\∃v,Za wr w.heap.size #[.slice none 0 0,.int .i64 0] 39/\Za wr (w.heap.size+1) #[v,.int .i64 (at'-(o:Int))] 39/\
   Own 3 (w.heap.size+2) wr v ((KP l o d).take k)/\Below w.heap.size w wr/\w.heap.size+2<=wr.heap.size) (fun i _=>d-(intOf i).toNat)
 case atStart=>
  refine⟨0,rfl,Z0 _,_,(Za.new _ _ _).alloc _,by simpa using Za.new (w.alloc _) _ _,Own.nil _ _ _,(((ZH _ _).alloc (ZB _) _).alloc QJ _),QJ⟩
 case round=>
  obtain⟨k,rfl,hk,v,hB0,hB1,hown,hbel,hsz⟩:=hrel;have c00:=hB0.cell 0;have c01:=hB0.cell 1;have c10:=hB1.cell 0;have c11:=hB1.cell 1;have f00:=hB0.free 0;have f01:=hB0.free 1;have f10:=hB1.free 0;have f11:=hB1.free 1;simp only[List.getElem?_toArray,List.getElem?_cons_zero,List.getElem?_cons_succ]at c00 c01 c10 c11;have hlen:((KP l o d).take k).length<17592186044416:=by simp[JO];omega
  by_cases hlt:k<d
  ·by_cases hin:o+k<n
   ·obtain⟨b1,o1,rfl,hc⟩:=hl.at (k:=o+k) QAu
    have e1:wr.cell? ⟨b1,o1+(o+k),none⟩=some (.int .i64 (ix l (o+k))):=by
     have:=hc (o+k) QAu;exact QF5
    clear hc hl;go_wp2_with (first|(at_builtin;refine app1 rfl _ _ rfl (w.heap.size+2) _ _ _ _ rfl rfl (hown.alloc _) (Y8 _ _ _) hlen (XG hsz _) ?_;intro v1 w1 hown1 hgrow1;obtain⟨a1,n1,m1,rfl⟩:=hown1.form;have hC0:=(hB0.alloc _).grown hgrow1 (hown.ne (Nat.lt_succ_of_lt (ZF _)));have KO:=(hB1.alloc _).grown hgrow1 (hown.ne (ZF _));obtain⟨d10,d11,g10,g11⟩:=KO.two)|(go_at_call 67;refine(PZ _ _).mono ?_;rintro e w' ⟨rfl,rfl⟩))
    go_roundw
    case rel=>exact⟨k+1,Qk,QQ,_,hC0.other QJ _,KO.set 0 _,by rw[Cj (by simpa using hlt)];exact(by rw[if_pos (by rw[HN.out];simpa using hin)];exact hown1.setCell QJ _),((hbel.alloc QQ _).grown hgrow1 QY (fun k hk=>Qvw)).setCell QJ _,by have:=hgrow1.size;simp at this ⊢;omega⟩
    case measure=>simp[intOf];omega
   ·have hge:n<=o+k:=by omega
    clear hin;go_wp2_with (first|(at_builtin;refine app1 rfl _ _ rfl (w.heap.size+2) _ _ _ _ rfl rfl (hown.alloc _) (Y8 _ _ _) hlen (XG hsz _) ?_;intro v1 w1 hown1 hgrow1;obtain⟨a1,n1,m1,rfl⟩:=hown1.form;have hC0:=(hB0.alloc _).grown hgrow1 (hown.ne (Nat.lt_succ_of_lt (ZF _)));have KO:=(hB1.alloc _).grown hgrow1 (hown.ne (ZF _));obtain⟨d10,d11,g10,g11⟩:=KO.two))
    go_roundw
    case rel=>exact⟨k+1,Qk,QQ,_,hC0.other QJ _,KO.set 0 _,by rw[Cj (by simpa using hlt)];exact(by rw[if_neg (by rw[HN.out];simpa using hge)];exact hown1.setCell QJ _),((hbel.alloc QQ _).grown hgrow1 QY (fun k hk=>Qvw)).setCell QJ _,by have:=hgrow1.size;simp at this ⊢;omega⟩
    case measure=>simp[intOf];omega
  ·obtain rfl:k=d:=by omega
   obtain⟨a1,n1,m1,rfl⟩:=hown.form;go_wp2;have D:=(hB0.set 0 (.slice a1 n1 m1)).set 1 (.int .i64 (at'-(o:Int)));obtain⟨q0,q1,-,-⟩:=Za.two D;rw[XV (by simp[JO])]at hown;refine ZC (v:=.tuple #[.agg #[.slice a1 n1 m1,.int .i64 (at'-(o:Int))],.int .i64 0]) (by simp[results,Tryz.results32,go_sem,q0,q1]) rfl ?_;exact⟨_,rfl,((hown.setCell QJ _).setCell QJ _).mono QQ,(hbel.setCell QJ _).setCell QJ _⟩
theorem Wv.len{F:Nat->Prop}{w:World}{p:Option Addr}{l:List Int}(h:Wv F w (.pointer p) l):Calls Tryz.prog 86 #[.agg #[.pointer p]] w fun e w'=>e=.returned (.int .i64 (l.length:Int))/\Below w.heap.size w w':=by
 obtain⟨T,h1,rfl⟩:=h;exact vz p T w h1.tree
theorem fq{ops:Array Oper}{rest:List Oper}{o:Oper}{a:Act}{Q:Exit->Act->World->Prop}{w:World}(hgd:o.guard=none)(s x:Operand)
  (ho:o.op=.call {callee:=.builtin .append,args:=#[s,x],argTypes:=#[26,26]})
  (base:Nat) (v:Value) (xs ys:List Int) (ad:Option Addr) (m c:Nat) (hs:a.eval s=v) (hx:a.eval x=.slice ad m c)
  (hown:Own 3 base w v xs) (hy:Ints w ad ys) (hm:ys.length=m) (h0:ad=none->m=0) (hl:xs.length+m<=17592186044416) (hbase:base<=w.heap.size)
  (h:∀v' w',Own 3 base w' v' (xs++ys)->w.grownBy w' v.ownBlock->(v'.ownBlock=v.ownBlock\/v'.ownBlock=some w.heap.size)->wpList Tryz.prog ops Q rest (a.put o.dst v') w'):
  wpList Tryz.prog ops Q (o::rest) a w:=by
 rcases ad with _|ad
 ·obtain rfl:m=0:=h0 rfl
  obtain rfl:ys=[]:=Ze hm;refine Lib.wpList_append_run w hgd s x _ _ ho v (.slice none 0 c) hs hx v w (WI w _ v xs base c hown QQ) ?_;exact h v w QBH ⟨rfl,rfl,rfl,ZB _,fun _ _ _=>rfl⟩ (.inl rfl)
 ·exact QXB hgd s x ho base v xs ys ad m c hs hx hown hy hm hl hbase h
theorem xM(p off width:Int)(h:2<=width):XE p (XE p off width) width=XE p off width:=by
 unfold XE;by_cases h1:p<off
 ·rw[if_pos h1,if_neg QQ,if_neg QQ]
 ·by_cases h2:off+width<=p
  ·rw[if_neg h1,if_pos h2,if_neg QQ,if_neg QQ]
  ·rw[if_neg h1,if_neg h2,if_neg h1,if_neg h2]
structure RwP (S1:SS) (w wx:World) (R:Nat) (a:Option Addr) (n c:Nat):Prop where
 lo:w.heap.size<=R
 c0:wx.cell? ⟨R,0,none⟩=some (.slice a n c)
 c1:wx.cell? ⟨R,1,none⟩=some (.int .i64 (S1.pos-S1.off))
 sl:Yf (fun k=>w.heap.size<=k/\k≠R) wx (.slice a n c) (KP S1.text S1.off S1.width)
 YX:Below w.heap.size w wx
theorem QVD{S1:SS}{w w6:World}{L n c Wz:Nat}{a:Option Addr}(hL:Za w6 L #[.slice none 0 0,.int .i64 0] 39)(hlo:w.heap.size<=L)(hlt:L<Wz)(o:Own 3 Wz w6 (.slice a n c) (KP S1.text S1.off S1.width))(hB:Below w.heap.size w w6):
  RwP S1 w ((w6.setCell ⟨L,0,none⟩ (.slice a n c)).setCell ⟨L,1,none⟩ (.int .i64 (S1.pos-S1.off))) L a n c:=by
 obtain⟨k0,k1,-,-⟩:=((hL.set 0 (.slice a n c)).set 1 (.int .i64 (S1.pos-S1.off))).two;have hs:Yf (fun k=>w.heap.size<=k/\k≠L) w6 (.slice a n c) (KP S1.text S1.off S1.width):=o.jr.imp fun k hk=>QQ
 have hnF:¬(w.heap.size<=L/\L≠L):=fun e=>e.2 rfl
 exact⟨hlo,k0,k1,(hs.UR (i:=0) (u:=.slice a n c) hnF).UR (i:=1) (u:=.int .i64 (S1.pos-S1.off)) hnF,(hB.setCell (p:=⟨L,0,none⟩) hlo _).setCell (p:=⟨L,1,none⟩) hlo _⟩
theorem QVE{S1:SS}{w w6:World}{n c Wz:Nat}{a:Option Addr}(hz:w.heap.size<=Wz)(o:Own 3 Wz w6 (.slice a n c) (KP S1.text S1.off S1.width))(hB:Below w.heap.size w w6):
  RwP S1 w (w6.alloc (.cells #[.slice a n c,.int .i64 (S1.pos-S1.off)] 39)) w6.heap.size a n c:=by
 obtain⟨k0,k1,-,-⟩:=(Za.new w6 #[.slice a n c,.int .i64 (S1.pos-S1.off)] 39).two;exact⟨hB.size,k0,k1,(o.jr.lt.imp fun k hk=>QQ).below (ZT _ _),Zo.alloc hB⟩
def SqS(B:Nat)(p:Option Addr)(S1:SS)(w w':World):Prop:=w'.cell? ⟨B,0,none⟩=some (.pointer p)/\w'.cell? ⟨B,1,none⟩=some (.int .i64 S1.pos)/\w'.cell? ⟨B,51,none⟩=some (.int .i64 S1.off)/\w'.cell? ⟨B,52,none⟩=some (.int .i64 S1.width)/\Below w.heap.size w w'
theorem sqK{B:Nat}{p:Option Addr}{S1:SS}{w wa wb:World}(hB:B<w.heap.size)(h:SqS B p S1 w wa)(hb:Below w.heap.size wa wb):SqS B p S1 w wb:=by
 obtain⟨h1,h2,h3,h4,h5⟩:=h;exact⟨QBp,QBo,by rw[hb.cell hB];exact h3,by rw[hb.cell hB];exact h4,h5.trans hb⟩
theorem sqW{B:Nat}{p:Option Addr}{S1:SS}{w wb:World}(hB:B<w.heap.size)(h:SqS B p S1 w w)(hb:Below w.heap.size w wb):SqS B p S1 w wb:=sqK hB h hb
theorem iA(F G:Nat->Prop)(B K:Nat)(S:SS)(w:World)(h:Yv F G w B S)(hI:XW K S)(hv:S.YC.length<=4398046511103):
  Calls Tryz.prog 49 #[.pointer (some ⟨B,0,none⟩)] w (VP F G w B S.show YG):=by
 obtain⟨f,hf⟩:=h;have hA:=At.begin hf;obtain⟨p,hpt⟩:=hf.d.text.ptr;have c0:=hf.cell 0;have c1:=hf.cell 1;have c51:=hf.cell 51;have c52:=hf.cell 52;have z51:=hf.free 51;rw[hpt]at c0;rw[hf.d.pos]at c1;rw[hf.d.off]at c51;rw[hf.d.width]at c52;have htx:=hf.d.text;rw[hpt]at htx;have kT:=Zy (fun(w':World) (hb:Below w.heap.size w w')=>Wv.len (htx.keep (G:=F) (Xv.below F hb) (fun _ h=>h)));have HVS:=Zy (show Kt S.text.length S.pos S.off S.width=(XE S.pos S.off S.width,0) by
  have:=hI.tl;have:=hI.p0;have:=hI.p1;have:=hI.o0;have:=hI.wd;unfold Kt XE;rw[if_neg QQ];split
  ·rfl
  ·split<;>rfl)
 have hBl:=hf.uq;have HA:=Zy hA;have HI:=Zy hI;have HV:=Zy hv;clear hf hA hpt htx hI hv;go_enter Tryz.func49,Tryz.ntmps49
 go_upto_region 0 with fail
 go_cut [29] (fun v wx=>v=.int .i64 0/\∃F' f',At F G w F' wx B f' {S with off:=XE S.pos S.off S.width})
 case first=>as_aux_lemma=>
  refine wp_region_held_drew (S:=(fun w'=>w'.cell? ⟨B,0,none⟩=some (.pointer p)/\w'.cell? ⟨B,1,none⟩=some (.int .i64 S.pos)/\w'.cell? ⟨B,52,none⟩=some (.int .i64 S.width))) QX ⟨c0,c1,c52⟩ ?_;intro hSd;refine ZP 0 ⟨some 7,.move (.tmp 0),_,_,_,_⟩ ((.pointer (some ⟨B,0,none⟩))) ?_;simp only[Act.put,Zj,Zk,Zu];refine ZP 1 ⟨some 8,.move (.tmp 0),_,_,_,_⟩ ((.pointer (some ⟨B,0,none⟩))) ?_;simp only[Act.put,Zj,Zk,Zu];refine ZP 2 ⟨some 9,.nilCheck (.tmp 8),_,_,_,_⟩ ((.pointer (some ⟨B,0,none⟩))) ?_;simp only[Act.put,Zj,Zk,Zu];refine ZP 3 ⟨some 10,.fieldAddr 112 (.tmp 9) 0,_,_,_,_⟩ ((.pointer (some ⟨B,0,none⟩))) ?_;simp only[Act.put,Zj,Zk,Zu];refine ZP 4 ⟨some 11,.fieldAddr 106 (.tmp 10) 0,_,_,_,_⟩ ((.pointer (some ⟨B,0,none⟩))) ?_;simp only[Act.put,Zj,Zk,Zu];refine ZP 5 ⟨some 12,.load 104 (.tmp 11),_,_,_,_⟩ ((.agg #[.pointer p])) ?_;simp only[Act.put,Zj,Zk,Zu];refine ZP 7 ⟨some 14,.move (.tmp 0),_,_,_,_⟩ ((.pointer (some ⟨B,0,none⟩))) ?_;simp only[Act.put,Zj,Zk,Zu];refine ZP 8 ⟨some 15,.nilCheck (.tmp 14),_,_,_,_⟩ ((.pointer (some ⟨B,0,none⟩))) ?_;simp only[Act.put,Zj,Zk,Zu];refine ZP 9 ⟨some 16,.fieldAddr 112 (.tmp 15) 0,_,_,_,_⟩ ((.pointer (some ⟨B,0,none⟩))) ?_;simp only[Act.put,Zj,Zk,Zu];refine ZP 10 ⟨some 17,.fieldAddr 106 (.tmp 16) 1,_,_,_,_⟩ ((.pointer (some ⟨B,1,none⟩))) ?_;simp only[Act.put,Zj,Zk,Zu];refine ZP 11 ⟨some 18,.load 3 (.tmp 17),_,_,_,_⟩ ((.int .i64 S.pos)) ?_;simp only[Act.put,Zj,Zk,Zu];refine ZP 12 ⟨some 19,.move (.tmp 0),_,_,_,_⟩ ((.pointer (some ⟨B,0,none⟩))) ?_;simp only[Act.put,Zj,Zk,Zu];refine ZP 13 ⟨some 20,.nilCheck (.tmp 19),_,_,_,_⟩ ((.pointer (some ⟨B,0,none⟩))) ?_;simp only[Act.put,Zj,Zk,Zu];refine ZP 14 ⟨some 21,.fieldAddr 112 (.tmp 20) 13,_,_,_,_⟩ ((.pointer (some ⟨B,51,none⟩))) ?_;simp only[Act.put,Zj,Zk,Zu];refine ZP 16 ⟨some 23,.move (.tmp 0),_,_,_,_⟩ ((.pointer (some ⟨B,0,none⟩))) ?_;simp only[Act.put,Zj,Zk,Zu];refine ZP 17 ⟨some 24,.nilCheck (.tmp 23),_,_,_,_⟩ ((.pointer (some ⟨B,0,none⟩))) ?_;simp only[Act.put,Zj,Zk,Zu];refine ZP 18 ⟨some 25,.fieldAddr 112 (.tmp 24) 14,_,_,_,_⟩ ((.pointer (some ⟨B,52,none⟩))) ?_;simp only[Act.put,Zj,Zk,Zu];refine ZP 19 ⟨some 26,.load 3 (.tmp 25),_,_,_,_⟩ ((.int .i64 S.width)) ?_;simp only[Act.put,Zj,Zk,Zu];refine Zl (rs:=[6,15]) QX QJ ?_;refine ZO (o:=⟨some 13,_,_,_,_,_⟩) rfl (fun K hK=>?_) (ZO (o:=⟨some 22,_,_,_,_,_⟩) rfl (fun K hK=>?_) Zg)
  ·go_simp
   refine(kT.out _ (Zo.drew (ZH _ w))).mono ?_;rintro e w5 ⟨rfl,hb5⟩;have hb5:Below w.heap.size w w5:=Zo.call hb5 (Zo.drew (ZH _ _));have x0:=ZL hb5 _ _ c0;have x1:=ZL hb5 _ _ c1;have x51:=ZL hb5 _ _ c51;have x52:=ZL hb5 _ _ c52;have hA2:=HA.out.JA hb5;have y51:=hA2.hf.free 51;have x0s:(w5.setCell ⟨B,51,none⟩ (.int .i64 (XE S.pos S.off S.width))).cell? ⟨B,0,none⟩=some (.pointer p):=by rw[Xp _ _ _ _ QJ];exact x0
   have x1s:(w5.setCell ⟨B,51,none⟩ (.int .i64 (XE S.pos S.off S.width))).cell? ⟨B,1,none⟩=some (.int .i64 S.pos):=by rw[Xp _ _ _ _ QJ];exact x1
   have QQC:(w5.setCell ⟨B,51,none⟩ (.int .i64 (XE S.pos S.off S.width))).cell? ⟨B,52,none⟩=some (.int .i64 S.width):=by rw[Xp _ _ _ _ QJ];exact x52
   dsimp only;refine hK.out _ _ ⟨x0,x1,x52⟩ (fun hHeld=>?_);clear hK K;refine Zl (rs:=[15]) QX QJ ?_;refine ZO (o:=⟨some 22,_,_,_,_,_⟩) rfl (fun K hK=>?_) Zg;go_simp;refine hK.out _ _ QH (fun hHeld=>?_);exact QDZ
  ·go_simp
   refine hK.out _ _ QH (fun hHeld=>?_);clear hK K;refine Zl (rs:=[6]) QX QJ ?_;refine ZO (o:=⟨some 13,_,_,_,_,_⟩) rfl (fun K hK=>?_) Zg;go_simp;refine(kT.out _ (Zo.drew (ZH _ w))).mono ?_;rintro e w5 ⟨rfl,hb5⟩;have hb5:Below w.heap.size w w5:=Zo.call hb5 (Zo.drew (ZH _ _));have x0:=ZL hb5 _ _ c0;have x1:=ZL hb5 _ _ c1;have x51:=ZL hb5 _ _ c51;have x52:=ZL hb5 _ _ c52;have hA2:=HA.out.JA hb5;have y51:=hA2.hf.free 51;have x0s:(w5.setCell ⟨B,51,none⟩ (.int .i64 (XE S.pos S.off S.width))).cell? ⟨B,0,none⟩=some (.pointer p):=by rw[Xp _ _ _ _ QJ];exact x0
   have x1s:(w5.setCell ⟨B,51,none⟩ (.int .i64 (XE S.pos S.off S.width))).cell? ⟨B,1,none⟩=some (.int .i64 S.pos):=by rw[Xp _ _ _ _ QJ];exact x1
   have QQC:(w5.setCell ⟨B,51,none⟩ (.int .i64 (XE S.pos S.off S.width))).cell? ⟨B,52,none⟩=some (.int .i64 S.width):=by rw[Xp _ _ _ _ QJ];exact x52
   dsimp only;refine hK.out _ _ ⟨x0,x1,x52⟩ (fun hHeld=>?_);exact QDZ
 case rest=>
  obtain⟨rfl,F2,f2,hA2⟩:=hcut;clear c0 c1 c51 c52 z51 kT HVS;obtain⟨S1,hS1⟩:∃S1:SS,S1={S with off:=XE S.pos S.off S.width}:=⟨_,rfl⟩;rw[<-hS1]at hA2;obtain⟨w2,hw2⟩:∃w2,w2=wc:=⟨_,rfl⟩;subst hw2;have hsh:S.show={S1 with YC:=S1.YC++Gd S1.row S1.rat.toNat (KP S1.text S1.off S1.width) (S1.pos-S1.off).toNat,row:=KP S1.text S1.off S1.width,rat:=S1.pos-S1.off}:=by rw[hS1];rfl
  obtain⟨q,hqt⟩:=hA2.hf.d.text.ptr;have b0:=hA2.hf.cell 0;have b1:=hA2.hf.cell 1;have b51:=hA2.hf.cell 51;have b52:=hA2.hf.cell 52;have htx:=hA2.hf.d.text;rw[hqt]at b0 htx;rw[hA2.hf.d.pos]at b1;rw[hA2.hf.d.off]at b51;rw[hA2.hf.d.width]at b52;have hBw:=hA2.hf.uq;have htl:S1.text.length<=200:=by rw[hS1];exact HI.out.tl
  have tH:=Zy (fun(w':World) (hb:Below w2.heap.size w2 w')=>Wv.list (htx.keep (G:=F2) (Xv.below F2 hb) (fun _ h=>h)) (show S1.text.length<=10000 from QQ));have hp0:0<=S1.pos:=by rw[hS1];exact HI.out.p0
  have hp1:S1.pos<=S1.text.length:=by rw[hS1];exact HI.out.p1
  have hsc:XE S1.pos S1.off S1.width=S1.off:=by rw[hS1];exact xM _ _ _ HI.out.wd.1
  have hoo:=ym (p:=S.pos) (off:=S.off) (width:=S.width) ⟨HI.out.p0,by have:=HI.out.p1;have:=HI.out.tl;omega⟩ HI.out.o0 HI.out.wd.1;have ho0:0<=S1.off:=by rw[hS1];exact hoo.1
  have ho1:S1.off<=200:=by rw[hS1];exact hoo.2.1
  have hd0:0<=S1.pos-S1.off:=by rw[hS1];exact hoo.2.2.1
  have hd1:S1.pos-S1.off<S1.width:=by rw[hS1];exact hoo.2.2.2
  have hw0:2<=S1.width:=by rw[hS1];exact HI.out.wd.1
  have hw1:S1.width<=120:=by rw[hS1];exact HI.out.wd.2
  have hVR:=Zy (fun(a:Option Addr) (n c:Nat) (W:World) (hl:Ints W a S1.text) (hn:S1.text.length=n)=>jl a n c S1.text S1.pos S1.off S1.width W hl hn QQ hp0 QQ hsc ho0 ho1 hw0 hw1);have HS0:=Zy (show SqS B q S1 w2 w2 from⟨b0,b1,b51,b52,ZH _ _⟩);have HA2:=Zy hA2;have pO:=Zy hsh;have BU:=Zy hS1;clear hqt htx hA2 hsh htl hsc hoo hS1;go_upto_region 1 with fail
  go_cut [2,3] (fun v2 v3 wx=>∃R a n c,v2=.pointer (some ⟨R,0,none⟩)/\v3=.int .i64 0/\RwP S1 w2 wx R a n c)
  case first=>as_aux_lemma=>
   go_region_held3 (fun w'=>w'.cell? ⟨B,0,none⟩=some (.pointer q)/\w'.cell? ⟨B,1,none⟩=some (.int .i64 S1.pos)/\w'.cell? ⟨B,51,none⟩=some (.int .i64 S1.off)/\w'.cell? ⟨B,52,none⟩=some (.int .i64 S1.width)/\Below w2.heap.size w2 w') (first|(with_reducible assumption)|(refine sqW hBw HS0.out ?_;repeat' (first|(with_reducible exact Wh)|(with_reducible exact JS)|(with_reducible exact ZH _ _)|(with_reducible refine Zo.alloc ?_)|(with_reducible refine Zo.drew ?_)|(with_reducible refine Zo.set Ml ?_))))
    (first|(go_at_call 79;refine(tH.out _ ?_).mono ?_;(·repeat' (first|(with_reducible exact ZH _ _)|(with_reducible refine Zo.alloc ?_)|(with_reducible refine Zo.drew ?_)));rintro e w5 ⟨v5,rfl,o5,hb5⟩;obtain⟨a5,n5,k5,rfl⟩:=o5.form;have JS:Below w2.heap.size w2 w5:=QG)|(go_at_call 32;refine(hVR.out a5 n5 k5 _ (by first|(with_reducible exact o5.get.2.1)|(with_reducible exact Ints.below o5.get.2.1 (ZT _ _))) o5.get.1).mono ?_;rintro e w6 ⟨v6,rfl,o6,hb6⟩;obtain⟨a6,n6,k6,rfl⟩:=o6.form;have Wh:Below w2.heap.size w2 w6:=Qv4;have hs5:=JS.size;(first|(refine yA (P:=Za w6 (w2.heap.size) #[.slice none 0 0,.int .i64 0] 39) ?_ ?_;(·repeat' (first|((with_reducible refine JV ?_);(first|rfl|(simp;done)))|(with_reducible refine Za.YP hb6 ?_)|(with_reducible refine Za.YP hb5 ?_)|(with_reducible refine Za.J5 ?_)|(with_reducible refine Za.Yc ?_)));intro hL6;have Ml:=ZB w2.heap.size;obtain⟨h60,h61,k60,k61⟩:=hL6.two)|(refine yA (P:=Za w6 (w5.heap.size) #[.slice none 0 0,.int .i64 0] 39) ?_ ?_;(·repeat' (first|((with_reducible refine JV ?_);(first|rfl|(simp;done)))|(with_reducible refine Za.YP hb6 ?_)|(with_reducible refine Za.YP hb5 ?_)|(with_reducible refine Za.J5 ?_)|(with_reducible refine Za.Yc ?_)));intro hL6;have Ml:=hs5;obtain⟨h60,h61,k60,k61⟩:=hL6.two)|skip)))
   all_goals
    go_wp2;go_meet
    first
     | exact⟨_,_,_,_,rfl,rfl,QVD hL6 Ml QAh o6 Wh⟩
     | exact⟨_,_,_,_,rfl,rfl,QVE (by have:=hs5;simp;try omega) o6 Wh⟩
  case rest=>
   obtain⟨R,a,n,c,rfl,rfl,hR⟩:=hcut;obtain⟨w3,hw3⟩:∃w3,w3=wc:=⟨_,rfl⟩;subst hw3;clear b0 b1 b51 b52;have hA3:=HA2.out.below hR.YX;have hFR:Fx F2 w2 w3 R:=.inr ⟨hR.lo,XU hR.c0⟩;have hRB:R≠B:=fun e=>hA3.hf.m.nB (e▸hFR)
   obtain⟨ra,rn,rc,hrw⟩:=hA3.hf.d.row.form;have hrow:=hA3.hf.d.row;have c53:=hA3.hf.cell 53;have c54:=hA3.hf.cell 54;rw[hrw]at c53 hrow;have QZo:J9 S1.row S1.rat=0:=by rw[BU.out];exact HI.out.re
   have QWl:(S1.row.length:Int)=S1.width:=by rw[BU.out];exact HI.out.rw_
   have QZn:J9 (KP S1.text S1.off S1.width) (S1.pos-S1.off)=0:=by have:=HI.out.show.re;rw[pO.out]at this;exact this
   have QZy:(Gd S1.row S1.rat.toNat (KP S1.text S1.off S1.width) (S1.pos-S1.off).toNat).length<=363:=by
    have:=(vZ HI.out).2;rw[pO.out]at this;rw[BU.out]at this ⊢;exact this
   have hvl:S1.YC.length<=4398046511103:=by rw[BU.out];exact HV.out
   have hz1:=VL QZo;have hz2:=VL QZn;obtain⟨pa,gF⟩:∃pa:Nat,S1.rat=pa:=⟨S1.rat.toNat,QQ⟩;obtain⟨pb,hpb⟩:∃pb:Nat,S1.pos-S1.off=pb:=⟨(S1.pos-S1.off).toNat,QQ⟩;have r0:=hR.c0;have r1:=hR.c1;rw[hA3.hf.d.rat,gF]at c54;rw[hpb]at r1;have hrn:=hrow.get.1;have hn:=hR.sl.get.1;rw[JO]at hn;obtain rfl:rn=n:=QQ;obtain⟨full,x,y,lo,hi,fi,la,H,hsg⟩:=OY S1.row (KP S1.text S1.off S1.width) pa pb rn hrn QQ QQ;have hpt:S1.rat.toNat=pa:=QQ;have QZv:(S1.pos-S1.off).toNat=pb:=QQ;have hwl:=JO S1.text S1.off S1.width;rw[hpt,QZv]at QZy;have HSG:=Zy (Hz ra a rn rc c pa pb full x y lo hi fi la S1.row (KP S1.text S1.off S1.width) w3.drew (hrow.sl.drew) (hR.sl.sl.drew) (by rw[<-gF];exact QZo) (by rw[<-hpb];exact QZn) QQ QQ H);rw[<-hsg]at HSG;have kg:=Zy hA3;have HR:=Zy hR;have HSL:=Zy QZy;have Sv:=Zy hvl;have HPA:=Zy gF;have HPB:=Zy hpb;have HPT:=Zy hpt;have Qqc:=Zy QZv;have hRl:=XU hR.c0;have Qj9:=hA3.hf.uq;clear hA3 hR hrow hrw QZo QWl QZn QZy hvl hz1 hz2 gF hpb hrn hn hpt QZv hwl hsg H HA2 tH hVR HS0 hp0 hp1 ho0 ho1 hd0 hd1 hw0 hw1;generalize QV2:Gd S1.row pa (KP S1.text S1.off S1.width) pb=sg at *;go_upto_region 2 with fail
   go_cut [4] (fun v wx=>∃sa sn sc,v=.slice sa sn sc/\Sl wx (.slice sa sn sc) sg/\Below w3.heap.size w3 wx)
   case first=>as_aux_lemma=>
    go_region_held3 (fun w'=>w'.cell? ⟨B,53,none⟩=some (.slice ra rn rc)/\w'.cell? ⟨B,54,none⟩=some (.int .i64 (pa:Int))/\w'.cell? ⟨R,0,none⟩=some (.slice a rn c)/\w'.cell? ⟨R,1,none⟩=some (.int .i64 (pb:Int))) (first|exact⟨c53,c54,r0,r1⟩|(with_reducible assumption)|exact⟨ZL hb5 _ _ c53,ZL hb5 _ _ c54,ZL hb5 _ _ r0,ZL hb5 _ _ r1⟩)
     (first|(go_at_call 92;refine HSG.out.mono ?_;rintro e w5 ⟨v5,rfl,s5,hb5⟩;obtain⟨a5,n5,k5,rfl⟩:∃a n c,v5=.slice a n c:=(by obtain⟨a,n,c,e,-⟩:=s5;exact⟨a,n,c,e⟩)))
    all_goals
     go_wp2;go_meet;exact⟨_,_,_,rfl,s5,Zo.call hb5 (Zo.drew (ZH _ w3))⟩
   case rest=>
    obtain⟨sa,sn,sc,rfl,hsl,hb4⟩:=hcut;obtain⟨w4,hw4⟩:∃w4,w4=wc:=⟨_,rfl⟩;subst hw4;have UY:=kg.out.JA hb4;obtain⟨va,vn,vc,hvv⟩:=UY.hf.m.YC.form;have hown:=UY.hf.m.YC;have c57:=UY.hf.cell 57;have z57:=UY.hf.free 57;rw[hvv]at c57 hown;have q0:=ZL hb4 _ _ r0;have q1:=ZL hb4 _ _ r1;have hnR:(Value.slice va vn vc).ownBlock≠some R:=fun e=>(UY.hf.m.J6 R (by rw[hvv];exact e)).1 hFR
    have QKz:R<w4.heap.size:=Zc hRl hb4.size;obtain⟨s1,s2,s3,s4,s5⟩:=hsl.get;have HRW:=Zy ((HR.out.sl.lt.imp (Q:=Fx F2 w2 w3) fun k hk=>.inr ⟨hk.1.1,hk.2⟩).below hb4);have iZ:=Zy UY;have HOW:=Zy hown;have HSS:=Zy s1;have HVV:=Zy hvv;have HS4:=Zy s4;have LB:=Zy s5;have HNR:=Zy hnR;have QJA:S1.YC.length+sn<=17592186044416:=by have:=Sv.out;have:=HSL.out;omega
    have HVS:=Zy QJA;clear UY hown hsl hb4 r0 r1 c53 c54 s1 s2 s3 s4 s5 hvv hnR QJA;go_wp2_with (at_builtin;refine fq rfl _ _ rfl 0 (.slice va vn vc) S1.YC sg sa sn sc rfl rfl HOW.out HS4.out HSS.out LB.out HVS.out (Z0 _) ?_;intro v6 w6 o6 hg6 QWI;obtain⟨a6,n6,k6,rfl⟩:=o6.form;have Wh:VF w6 B f2:=Za.grown iZ.out.hf.m.blk hg6 (HOW.out.Xa iZ.out.hf.m.blk QZ);obtain⟨x57,y57⟩:=Wh.at 57;obtain⟨x53,y53⟩:=Wh.at 53;obtain⟨x54,y54⟩:=Wh.at 54;have g0:w6.cell? ⟨R,0,none⟩=some (.slice a rn c):=(by unfold World.cell? at q0 ⊢;rw[hg6.block R QKz HNR.out.symm];exact q0);have g1:w6.cell? ⟨R,1,none⟩=some (.int .i64 (pb:Int)):=(by unfold World.cell? at q1 ⊢;rw[hg6.block R QKz HNR.out.symm];exact q1);clear Wh)
    go_end0
    have UY:=iZ.out;have Vt:=UY.YC (S':={S1 with YC:=S1.YC++sg}) (ZH _ w4) (by rw[HVV.out];exact hg6) o6 (by rw[HVV.out];exact QWI) {UY.hf.d with} ⟨rfl,rfl⟩;have QV5:Yf (Fx F2 w2 w3) (w6.setCell ⟨B,57,none⟩ (.slice a6 n6 k6)) (.slice a rn c) (KP S1.text S1.off S1.width):=
     HRW.out.keep (Same.JB (F:=Fx F2 w2 w3) fun k hk=>by
      have hkB:k≠B:=fun e=>UY.hf.m.nB (e▸hk)
      rw[Zm _ ⟨B,57,none⟩ _ _ hkB];exact hg6.block k (UY.bF k hk) (fun e=>(UY.hf.m.J6 k (by rw[HVV.out];exact e.symm)).1 hk))
    have jP:=Vt.store (S':={S1 with YC:=S1.YC++sg,row:=KP S1.text S1.off S1.width}) 53 (.slice a rn c) {Vt.hf.d with row:=QV5};have qj:=jP.store (S':={S1 with YC:=S1.YC++sg,row:=KP S1.text S1.off S1.width,rat:=(pb:Int)}) 54 (.int .i64 (pb:Int)) {jP.hf.d with rat:=rfl};exact⟨rfl,by rw[pO.out,HPT.out,Qqc.out,HPB.out,QV2];exact qj.done⟩
structure Pd (A:List Int):Prop where
 run:WK A=⟨A,[]⟩
 lt:A≠[]->(A.length:Int)<xk (ix A 0)
 byt:gy A
theorem Ev:Pd []:=⟨rfl,fun h=>absurd rfl h,fun x hx=>by cases hx⟩
theorem QQG(b:Int):xk b<=4:=by
 unfold xk
 repeat' split
 all_goals omega
theorem QQF(b:Int):xk b=0\/1<=xk b:=by
 unfold xk
 repeat' split
 all_goals omega
theorem Pd.len{A:List Int}(h:Pd A):A.length<=3:=by
 by_cases hA:A=[]
 ·subst hA;simp
 ·have:=h.lt hA
  have:=QQG (ix A 0);omega
theorem PO(l:List Int)(b:Int):WK (l++[b])=(WK l).take b:=by simp[WK]
theorem mY{m:MS}{b:Int}(h:Pd m.ah)(hb:0<=b/\b<256):Pd (m.take b).ah:=by
 obtain⟨A,o⟩:=m;dsimp only at h;have hgo:∀(B:List Int) (o2:List Int),Pd B->¬(B≠[]/\qf B b=false)->Pd ((MS.put ⟨B,o2⟩ b).ah):=by
  intro B o2 hB hnf;unfold MS.put;dsimp only;by_cases c1:B=[]/\xk b=0
  ·rw[if_pos c1];exact Ev
  ·rw[if_neg c1]
   by_cases c2:((B.length+1:Nat):Int)=xk (ix (B++[b]) 0)
   ·rw[if_pos c2];exact Ev
   ·rw[if_neg c2]
    refine⟨?_,fun _=>?_,?_⟩
    ·rw[PO,hB.run]
     unfold MS.take;rw[if_neg hnf];unfold MS.put;dsimp only;rw[if_neg c1,if_neg c2]
    ·rw[Zd,List.length_singleton]
     by_cases hB0:B=[]
     ·subst hB0
      have h1:ix ([]++[b]) 0=b:=rfl;rw[h1]at c2 ⊢;have:=QQF b;simp at c2 ⊢;rcases this with h|h
      ·exact absurd ⟨rfl,h⟩ c1
      ·omega
     ·have h1:ix (B++[b]) 0=ix B 0:=YN (X6.2 hB0)
      rw[h1]at c2 ⊢;have:=hB.lt hB0;omega
    ·intro x hx
     rcases XL.1 hx with hx|hx
     ·exact hB.byt x hx
     ·obtain rfl:=List.mem_singleton.1 hx
      exact hb
 unfold MS.take;by_cases c:A≠[]/\qf A b=false
 ·rw[if_pos c]
  have hbk:MS.brk ⟨A,o⟩=⟨[],o++[65533]⟩:=by unfold MS.brk;rw[if_neg c.1]
  rw[hbk];exact hgo [] _ Ev (fun e=>e.1 rfl)
 ·rw[if_neg c]
  exact hgo A o h c
theorem Ou:∀(l:List Int) (m:MS),Pd m.ah->gy l->Pd (l.foldl MS.take m).ah
 | [],m,h,_=>h
 | b::l,m,h,hb=>Ou l (m.take b) (mY h (hb b (Zb.2 (.inl rfl)))) (fun x hx=>hb x (Zb.2 (.inr hx)))
theorem QXj{A:List Int}(h:gy A)(j:Nat):bt (Cn A) j=ix A j:=by
 unfold bt Cn ix;by_cases hj:j<A.length
 ·have hb:=h _ (YK hj)
  simp[List.getD,hj];omega
 ·simp[List.getD,Nat.le_of_not_lt hj]
theorem vQ(A:List Int):(Cn A).size=A.length:=by
 show(A.map fun x=>UInt8.ofNat x.toNat).toArray.size=_
 simp
theorem oF{A:List Int}(h:gy A):uA (Cn A)=A:=by
 refine zt (by rw[VT,vQ]) fun i hi=>?_
 rw[VT]at hi;rw[eT hi,QXj h]
theorem ed(s:ByteArray):gy (uA s):=by
 intro x hx;obtain⟨j,-,rfl⟩:=List.mem_map.1 hx;have:=Uc s j;omega
structure FH (p:ByteArray):Prop where
 out:(K4 p).out=[]
 len:p.size<=3
theorem FH.next(s:ByteArray):FH (Cn (K4 s).ah):=by
 have h:=Ou (uA s) ⟨[],[]⟩ Ev (ed s);have hr:K4 s=(uA s).foldl MS.take ⟨[],[]⟩:=rfl;rw[<-hr]at h;refine⟨?_,by rw[vQ];exact h.len⟩
 show(WK (uA (Cn (K4 s).ah))).out=[]
 rw[oF h.byt,h.run]
theorem FH.nil:FH ⟨#[]⟩:=⟨rfl,QZ⟩
theorem Ta{W:World}{K:Nat}{S:SS}(h:XW K S)(key:Int):(S.step W key).YC.length<=S.YC.length+363:=by
 unfold SS.step;by_cases ho:S.over=true
 ·rw[if_pos ho];omega
 ·rw[if_neg ho]
  have hi:=h.key (W:=W) key;have hv:(S.key W key).YC=S.YC:=by
   rcases MO (W:=W) h key with ht|ht
   ·exact ht.YC
   ·rw[ht];rfl
  have:=(vZ hi).2
  show(_++_:List Int).length<=_
  rw[Zd,hv];exact Nat.add_le_add_left this _
theorem vo{W:World}:∀(l:List Int) {K:Nat} {S:SS},XW K S->(S.keys W l).YC.length<=S.YC.length+363*l.length
 | [],K,S,h=>ZB _
 | k::l,K,S,h=>by
  have h1:=Ta (W:=W) h k;have h2:=vo (W:=W) l (h.step (W:=W) k);have hs:S.keys W (k::l)=(S.step W k).keys W l:=rfl;rw[hs,XD];omega
theorem RV{W:World}(S:SS)(l:List Int)(k:Int):S.keys W (l++[k])=(S.keys W l).step W k:=by unfold SS.keys;rw[List.foldl_append];rfl
theorem Ht{W:World}(S:SS)(l m:List Int):S.keys W (l++m)=(S.keys W l).keys W m:=by unfold SS.keys;rw[List.foldl_append]
theorem At.reset{F0 G0 F:Nat->Prop}{w0 w:World}{B:Nat}{f:Nat->Value}{S:SS}(h:At F0 G0 w0 F w B f S)(p:ByteArray):
  At F0 G0 w0 F (((w.setCell ⟨B,50,none⟩ (.string p)).setCell ⟨B,56,none⟩ (.slice none 0 0)).setCell ⟨B,57,none⟩ (.slice none 0 0)) B (KR (KR (KR f 50 (.string p)) 56 (.slice none 0 0)) 57 (.slice none 0 0)) {S with pend:=p,told:=[],YC:=[]}:=by
 have h1:=h.store (S':={S with pend:=p}) 50 (.string p) {h.hf.d with pend:=rfl};generalize w.setCell ⟨B,50,none⟩ (.string p)=w1 at *;generalize KR f 50 (.string p)=f1 at *;have hM:=h1.hf.m;have hne:=hM.WO;have hs:∀k,k≠B->((w1.setCell ⟨B,56,none⟩ (.slice none 0 0)).setCell ⟨B,57,none⟩ (.slice none 0 0)).heap[k]? =w1.heap[k]?:=fun k hk=>(Zm _ _ _ _ hk).trans (Zm _ _ _ _ hk)
 have hsz:((w1.setCell ⟨B,56,none⟩ (.slice none 0 0)).setCell ⟨B,57,none⟩ (.slice none 0 0)).heap.size=w1.heap.size:=by rw[size_setCell,size_setCell]
 have dO:Gx G0 w0 ((w1.setCell ⟨B,56,none⟩ (.slice none 0 0)).setCell ⟨B,57,none⟩ (.slice none 0 0))=Gx G0 w0 w1:=by rw[Gx.setCell,Gx.setCell]
 have hd:qi F w1 (KR (KR f1 56 (.slice none 0 0)) 57 (.slice none 0 0)) {S with pend:=p,told:=[],YC:=[]}:={h1.hf.d with};refine⟨⟨h1.step.os,h1.step.tape,h1.step.output,by rw[hsz];exact h1.step.size,fun k hk hn=>?_⟩,fun k hk=>?_,h1.sub,⟨?_,?_,(hd.setCell hM.nB).setCell hM.nB,?_⟩⟩
 ·rw[hs k (fun e=>?_)]
  ·exact h1.step.block k hk hn
  ·subst e
   exact QEb
 ·rw[hs k (h1.sG k hk)];exact h1.same k hk
 ·rw[dO];exact h1.hf.fg
 ·rw[dO,hsz];exact h1.hf.lt
 ·rw[dO]
  exact {
   blk:=(hM.blk.set 56 _).set 57 _,nB:=hM.nB,gB:=hM.gB
   now:=by
    rw[X7 QZ,X7 QZ,JF];have hn:=hM.now;cases ho:S.now with
    | none=>rw[ho]at hn;exact hn
    | some q=>
     obtain⟨c,ty⟩:=q;rw[ho]at hn;obtain⟨C,tv,g1,g2,g3,g4,g5,g6⟩:=hn;exact⟨C,tv,g1,g2,g3,Za.moved g4 (hs C (hne C (.inr (.inr ⟨C,g1,.inl rfl⟩)))),g5.moved (fun k hk=>hs k (hne k (.inr (.inr ⟨C,g1,.inr ⟨tv,g4.cell 5,hk⟩⟩)))),fun k hk=>⟨(g6 k hk).1,(g6 k hk).2.1,by simp[Value.ownBlock]⟩⟩
   told:=⟨[],by rw[X7 QZ,JF];exact Xb.nil _ _ _,ji.nil _ _⟩
   Y0:=fun k hk=>by rw[X7 QZ,JF]at hk;simp[Value.ownBlock]at hk
   YC:=by rw[JF];exact YR _ _ _ _
   J6:=fun k hk=>by rw[JF]at hk;simp[Value.ownBlock]at hk}
def FdS(W0:World)(F G:Nat->Prop)(w:World)(B:Nat)(S:SS)(b:ByteArray)(e:Ending)(w':World):Prop:=
 ∃F' f',At F G w F' w' B f' (S.feed W0 b).1/\
  (((S.feed W0 b).2=0/\e=.returned (.tuple #[f' 56,f' 57,.int .i64 0]))\/((S.feed W0 b).2≠0/\e=.returned (.tuple #[.slice none 0 0,.slice none 0 0,.int .i64 (S.feed W0 b).2])))
theorem Ns(W0:World)(F G:Nat->Prop)(B K:Nat)(S:SS)(b:ByteArray)(w:World)(h:Yv F G w B S)(hI:XW K S)(hP:FH S.pend)(hK:K<=268435456):
  Calls Tryz.prog 18 #[.pointer (some ⟨B,0,none⟩),.string b] w (FdS W0 F G w B S b):=by
 obtain⟨f,hf⟩:=h;have hA:=At.begin hf;have tT:=hf.cell 55;have c50:=hf.cell 50;rw[hf.d.over]at tT;rw[hf.d.pend]at c50;cases hov:S.over with
 | true=>
  rw[hov]at tT;have RF:S.feed W0 b=(S,6):=by unfold SS.feed;rw[hov];rfl
  have HA:=Zy hA;have HF:=Zy RF;clear hf hA hov RF;go_enter Tryz.func18,Tryz.ntmps18
  go_wp2;go_ret3
  exact⟨F,f,by rw[HF.out];exact HA.out,.inr ⟨by rw[HF.out];exact(by decide:(6:Int)≠0),by rw[HF.out];rfl⟩⟩
 | false=>
  rw[hov]at tT;by_cases hb:4096<b.size
  ·have RF:S.feed W0 b=(S,2):=by unfold SS.feed;rw[if_neg (by rw[hov];decide),if_pos hb]
   have HC:=Zy (kN S.pend b w (by have:=hP.len;omega) hP.out hb);have HA:=Zy hA;have HF:=Zy RF;clear hf hA hov RF hb;go_enter Tryz.func18,Tryz.ntmps18
   go_wp2_with fail
   refine HC.out.mono ?_;rintro e w2 ⟨v2,rfl,o2,hb2⟩;obtain⟨a2,n2,k2,rfl⟩:=o2.form;go_wp2;go_ret3
   exact⟨F,f,by rw[HF.out];exact HA.out.JA hb2,.inr ⟨by rw[HF.out];exact(by decide:(2:Int)≠0),by rw[HF.out];rfl⟩⟩
  ·obtain⟨L,hL⟩:∃L,L=(K4 (S.pend++b)).out:=⟨_,rfl⟩
   obtain⟨pd,hpd⟩:∃pd,pd=Cn (K4 (S.pend++b)).ah:=⟨_,rfl⟩;have hLl:L.length<=8200:=by
    have:=aJ (S.pend++b);rw[<-hL,ByteArray.size_append]at this;have:=hP.len;omega
   obtain⟨S0,hS0⟩:∃S0:SS,S0={S with pend:=pd,told:=[],YC:=[]}:=⟨_,rfl⟩;have RF:S.feed W0 b=(S0.keys W0 L,0):=by unfold SS.feed;rw[if_neg (by rw[hov];decide),if_neg hb,hS0,hL,hpd]
   have hI0:XW K S0:=by rw[hS0];exact {hI with}
   have ho0:S0.over=false:=by rw[hS0];exact hov
   have ht0:S0.told=[]:=QBx;have hv0:S0.YC=[]:=QBx;have HC:=Zy (Fq S.pend b w (by have:=hP.len;omega) hP.out QQ);rw[<-hL,<-hpd]at HC;have HTB:=Zy (show∀j,j<L.length->(S0.keys W0 (L.take j)).told.length+(K+j)+2<=4398046511103 from fun j hj=>by
    obtain⟨m,h1,h2,-⟩:=(uy (W:=W0) (L.take j) hI0 ho0 (K+L.length) (by rw[Zp];omega)).told;rw[h1,ht0,List.nil_append];have h3:(L.take j).length*(K+L.length+2)<=8200*(268435456+8200+2):=Nat.mul_le_mul (by rw[Zp];omega) QQ
    omega)
   have HVB:=Zy (show∀j,j<=L.length->(S0.keys W0 (L.take j)).YC.length<=4398046511103 from fun j hj=>by
    have:=vo (W:=W0) (L.take j) hI0;rw[hv0,Zp]at this;simp at this
    omega)
   have HIB:=Zy (show∀j,j<=L.length->XW (K+j) (S0.keys W0 (L.take j))from fun j hj=>by
    have:=XW.keys (W:=W0) (L.take j) hI0
    rwa[Zp,Yb hj]at this)
   have HS0:=Zy hS0;have HA:=Zy hA;have HF:=Zy RF;have Ur:=Zy hLl;have hKb:K<=268435456:=hK;clear hf hA hov RF hb hL hpd hLl hS0 hI0 ho0 ht0 hv0 hI hP;go_enter Tryz.func18,Tryz.ntmps18
   go_wp2_with fail
   refine HC.out.mono ?_;rintro e w2 ⟨v2,rfl,o2,hb2⟩;obtain⟨la,ln,lc,rfl⟩:=o2.form;have hA2:=HA.out.below hb2;obtain⟨ry,z50⟩:=hA2.hf.m.blk.at 50;obtain⟨x56,z56⟩:=hA2.hf.m.blk.at 56;obtain⟨x57,z57⟩:=hA2.hf.m.blk.at 57;have hA3:=hA2.reset pd;rw[<-HS0.out]at hA3;have hsl:Yf (Fx F w w2) w2 (.slice la ln lc) L:=o2.jr.lt.imp fun k hk=>Fx.new k hk
   have nB:=hA2.hf.m.nB;have QJP:=((hsl.UR (i:=50) (u:=.string pd) nB).UR (i:=56) (u:=.slice none 0 0) nB).UR (i:=57) (u:=.slice none 0 0) nB;have hln:=hsl.get.1;have kg:=Zy hA3;have HSL:=Zy QJP;have kT:=Zy hln;have QjP:ln<=8200:=by have:=Ur.out;omega
   clear hA2 hA3 hsl QJP hb2 o2 nB tT c50 hln;go_wp2
   go_loopw [41] (fun x wr=>∃(j:Nat) (F':Nat->Prop) (f':Nat->Value),x=.int .i64 (j:Int)/\j<=ln/\At F G w F' wr B f' (S0.keys W0 (L.take j))/\Yf F' wr (.slice la ln lc) L) (fun x _=>ln-(intOf x).toNat)
   case atStart=>exact⟨0,_,_,rfl,QQ,kg.out,HSL.out⟩
   case round=>
    obtain⟨j,F5,f5,rfl,hj,Kn,hs5⟩:=hrel;have hfin:∀(S':SS) (F6:Nat->Prop) (f6:Nat->Value) (w6:World),S'=S0.keys W0 L->At F G w F6 w6 B f6 S'->FdS W0 F G w B S b (.returned (.tuple #[f6 56,f6 57,.int .i64 0])) w6:=fun S' F6 f6 w6 e Vt=>
     ⟨F6,f6,by rw[HF.out];subst e;exact Vt,.inl ⟨by rw[HF.out],rfl⟩⟩
    have QUj:=Zy hfin;clear hfin;by_cases hlt:j<ln
    ·have hi0:(0:Int)<=(j:Int):=by omega
     have hin:(j:Int)<(ln:Int):=QQ;have hjt:j<L.length:=by rw[kT.out];exact hlt
     obtain⟨b1,o1,rfl,hcc⟩:=Ints.at hs5.get.2.2.2.1 hjt;have cv:=hcc j hjt;obtain⟨x55,-⟩:=Kn.hf.m.blk.at 55;rw[Kn.hf.d.over]at x55;cases hov:(S0.keys W0 (L.take j)).over with
     | true=>as_aux_lemma=>
      rw[hov]at x55;have heq:S0.keys W0 (L.take j)=S0.keys W0 L:=by
       conv=>rhs;rw[<-List.take_append_drop j L,Ht]
       rw[jC _ hov]
      obtain⟨x56,-⟩:=Kn.hf.m.blk.at 56;obtain⟨x57,-⟩:=Kn.hf.m.blk.at 57;have SG:=Zy Kn;have HEQ:=Zy heq;clear Kn hs5 hcc heq hov;go_upto_region 14 with fail
      go_region
      all_goals
       go_wp2;go_ret3
       exact QUj.out _ F5 f5 _ HEQ.out SG.out.drew
     | false=>as_aux_lemma=>
      rw[hov]at x55;have hi:=HIB.out j QQ;have HK:=Zy (QQP W0 F5 _ B (K+j) _ (ix L j) wr ⟨f5,Kn.hf⟩ hi QQ (HTB.out j hjt));have hst:((S0.keys W0 (L.take j)).key W0 (ix L j)).show=S0.keys W0 (L.take (j+1)):=by
       rw[XX hjt,RV,<-Yw hjt];unfold SS.step;rw[hov];rfl
      have hi2:=hi.key (W:=W0) (ix L j);have hvk:((S0.keys W0 (L.take j)).key W0 (ix L j)).YC.length<=4398046511103:=by
       have hv:((S0.keys W0 (L.take j)).key W0 (ix L j)).YC=(S0.keys W0 (L.take j)).YC:=by
        rcases MO (W:=W0) hi (ix L j)with ht|ht
        ·exact ht.YC
        ·rw[ht];rfl
       rw[hv];exact HVB.out j QQ
      have SG:=Zy Kn;have LB:=Zy hs5;have HST:=Zy hst;have HI2:=Zy hi2;have HVK:=Zy hvk;clear Kn hs5 hcc hst hi hi2 hvk hov;generalize S0.keys W0 (L.take j)=Sj at *;go_wp2_with (first|(go_at_call 48;go_loud (refine(HK.out).mono ?_;rintro e w6 ⟨rfl,hv6⟩;obtain⟨F6,f6,Vt,OL,Er⟩:=SG.out.call hv6;have pO:=Zy (iA F6 _ B (K+j+1) _ w6 ⟨f6,Vt.hf⟩ HI2.out HVK.out);have HA6:=Zy Vt;have HS6:=Zy ((LB.out.keep Er.JB).imp OL);clear hv6 Vt OL Er))|(go_at_call 49;go_loud (refine(pO.out).mono ?_;rintro e w7 ⟨rfl,hv7⟩;have HV7:=Zy hv7;clear hv7)))
      obtain⟨F7,f7,jP,QJI,QZj⟩:=HA6.out.call HV7.out;rw[HST.out]at jP;exact⟨⟨j+1,F7,f7,Qk,QQ,jP,(HS6.out.keep QZj.JB).imp QJI⟩,Qp⟩
    ·as_aux_lemma=>
     obtain rfl:j=ln:=QQ;rw[XV (by rw[kT.out];exact ZB _)]at Kn;obtain⟨x56,-⟩:=Kn.hf.m.blk.at 56;obtain⟨x57,-⟩:=Kn.hf.m.blk.at 57;have SG:=Zy Kn;clear Kn hs5 hlt;go_upto_region 14 with fail
     go_region
     all_goals
      go_wp2;go_ret3
      exact QUj.out _ F5 f5 _ rfl SG.out.drew
structure Rw (S S':SS):Prop where
 YC:S'.YC=S.YC
 row:S'.row=S.row
 rat:S'.rat=S.rat
 pend:S'.pend=S.pend
theorem Rw.trans{S T U:SS}(h:Rw S T)(g:Rw T U):Rw S U:=⟨g.YC.trans h.YC,g.row.trans h.row,g.rat.trans h.rat,g.pend.trans h.pend⟩
theorem Rw.Yt(S:SS):Rw S S.Yt:=⟨rfl,rfl,rfl,rfl⟩
theorem Rw.typed(S:SS)(key:Int):Rw S (S.typed key):=by
 unfold SS.typed;split
 ·exact⟨rfl,rfl,rfl,rfl⟩
 ·split
  ·exact Rw.Yt S
  ·exact⟨rfl,rfl,rfl,rfl⟩
theorem Rw.Vf:∀(l:List Int) (S:SS),Rw S (l.foldl SS.typed S)
 | [],S=>⟨rfl,rfl,rfl,rfl⟩
 | k::l,S=>(Rw.typed S k).trans (Rw.Vf l (S.typed k))
theorem Rw.moved(S:SS)(r:Hi×List Int×Int):Rw S (S.moved r):=by
 unfold SS.moved;split
 ·exact Rw.Yt S
 ·exact⟨rfl,rfl,rfl,rfl⟩
theorem Rw.Ko(W:World)(S:SS)(c:C5):Rw S (S.Ko W c).1:=by
 unfold SS.Ko;split
 ·exact Rw.Yt S
 ·dsimp only
  split<;>split<;>exact⟨rfl,rfl,rfl,rfl⟩
theorem Rw.again(W:World)(S:SS)(n:Int):Rw S (S.again W n):=by
 unfold SS.again;split
 ·exact Rw.Yt S
 ·rename_i c ty he
  dsimp only;generalize(if 0<n then({c with a:=n}:C5)else c)=c';split
  ·exact Rw.Ko W S _
  ·exact((Rw.Ko W S _).trans (Rw.Vf ty _)).trans (Rw.typed _ 27)
theorem Rw.command(W:World)(S:SS)(c:C5):Rw S (S.command W c):=by
 unfold SS.command;split
 ·exact Rw.Ko W S c
 split
 ·unfold SS.back;split<;>exact⟨rfl,rfl,rfl,rfl⟩
 split
 ·unfold SS.Ky;split<;>exact⟨rfl,rfl,rfl,rfl⟩
 split
 ·exact Rw.again W S c.a
 split
 ·exact Rw.moved S _
 split
 ·exact Rw.moved S _
 split
 ·exact Rw.moved S _
 split
 ·exact Rw.moved S _
 split
 ·exact⟨rfl,rfl,rfl,rfl⟩
 ·exact Rw.Ko W S c
theorem Rw.asked(S:SS)(key:Int):Rw S (S.asked key):=by
 unfold SS.asked;split
 ·have h:=Rw.moved ({S with mode:=0}:SS) (CQ S.Z8 S.text S.ask S.older)
  exact⟨h.YC,h.row,h.rat,h.pend⟩
 split
 ·exact⟨rfl,rfl,rfl,rfl⟩
 split
 ·split<;>exact⟨rfl,rfl,rfl,rfl⟩
 split
 ·exact Rw.Yt S
 ·exact⟨rfl,rfl,rfl,rfl⟩
theorem Rw.key(W:World)(S:SS)(key:Int):Rw S (S.key W key):=by
 unfold SS.key;split
 ·exact⟨rfl,rfl,rfl,rfl⟩
 split
 ·exact Rw.asked S key
 split
 ·exact⟨rfl,rfl,rfl,rfl⟩
 split
 ·split
  ·exact Rw.Yt S
  ·exact⟨rfl,rfl,rfl,rfl⟩
 split
 ·exact Rw.typed S key
 dsimp only;split
 ·have h:=Rw.command W ({S with part:=(S.WX key).part}:SS) (S.WX key).cmd
  exact⟨h.YC,h.row,h.rat,h.pend⟩
 split
 ·exact⟨rfl,rfl,rfl,rfl⟩
 ·exact⟨rfl,rfl,rfl,rfl⟩
theorem TS(m:MS)(b:Int):(m.take b).out.length+(m.take b).ah.length<=m.out.length+m.ah.length+1:=by
 have hput:∀q:MS,(q.put b).out.length+(q.put b).ah.length<=q.out.length+q.ah.length+1:=fun q=>by
  unfold MS.put;split
  ·simp
  ·split
   ·simp
   ·simp only[Zd,XD,List.length_nil];omega
 unfold MS.take;split
 ·rename_i h
  refine Zh (hput _) ?_;unfold MS.brk;rw[if_neg h.1];have:=X6.2 h.1;simp;omega
 ·exact hput m
theorem Iu:∀(l:List Int) (m:MS),(l.foldl MS.take m).out.length+(l.foldl MS.take m).ah.length<=m.out.length+m.ah.length+l.length
 | [],m=>ZB _
 | b::l,m=>by
  have h1:=Iu l (m.take b);have h2:=TS m b;rw[List.foldl_cons,XD];omega
theorem Gl(s:ByteArray):(K4 s).out.length+(K4 s).ah.length<=s.size:=by
 have h:=Iu (uA s) ⟨[],[]⟩;rw[VT]at h;have e:K4 s=(uA s).foldl MS.take ⟨[],[]⟩:=rfl;rw[e];simpa using h
structure zD (N used:Nat) (most:Int) (S:SS) (l:List (Int×List Int)) (m:List Int):Prop where
 inv:∃K,XW K S/\K+S.pend.size<=used/\l.length<=K*(N+2)/\m.length<=363*K
 pend:FH S.pend
 lens:∀e∈l,e.2.length<=200
 ends:(S.over=false/\∀e∈l,e.1≠4)\/(S.over=true/\∃k,l=k++[(4,[])]/\∀e∈k,e.1≠4)
 most:S.Z8.most=most
 row:Vg m (List.replicate S.width.toNat 32,0)=(S.row,S.rat.toNat)
theorem Hr{W:World}:∀(l:List Int) {K:Nat} {S:SS} (s:List Int×Nat),XW K S->Vg S.YC s=(S.row,S.rat.toNat)->Vg (S.keys W l).YC s=((S.keys W l).row,(S.keys W l).rat.toNat)
 | [],K,S,s,h,hr=>hr
 | k::l,K,S,s,h,hr=>by
  have hs:S.keys W (k::l)=(S.step W k).keys W l:=rfl;rw[hs];refine Hr l s (h.step (W:=W) k) ?_;unfold SS.step;by_cases ho:S.over=true
  ·rw[if_pos ho];exact hr
  ·rw[if_neg ho]
   have hi:=h.key (W:=W) k;have hk:(S.key W k).YC=S.YC/\(S.key W k).row=S.row/\(S.key W k).rat=S.rat:=⟨(Rw.key W S k).YC,(Rw.key W S k).row,(Rw.key W S k).rat⟩;have hv:(S.key W k).show.YC=(S.key W k).YC++Gd (S.key W k).row (S.key W k).rat.toNat (S.key W k).show.row (S.key W k).show.rat.toNat:=rfl;rw[hv,Kc,hk.1,hr,<-hk.2.1,<-hk.2.2];exact(vZ hi).1
theorem Px{W:World}(S:SS)(key:Int):(S.step W key).pend=S.pend:=by
 unfold SS.step;split
 ·rfl
 ·exact(Rw.key W S key).pend
theorem Cs{W:World}:∀(l:List Int) (S:SS),(S.keys W l).pend=S.pend
 | [],S=>rfl
 | k::l,S=>(Cs l (S.step W k)).trans (Px S k)
theorem zD.new{N:Nat}{most width:Int}(h:1<=most/\most<=50/\2<=width/\width<=120):zD N 0 most (SS.new most width) [] []:=
 {
  inv:=⟨0,XW.new h.1 h.2.1 h.2.2.1 h.2.2.2,ZB _,Z0 _,Z0 _⟩
  pend:=FH.nil
  lens:=fun e he=>QBY
  ends:=.inl ⟨rfl,fun e he=>QBY⟩
  most:=rfl
  row:=rfl}
theorem jR{W:World}{S:SS}{b:ByteArray}(he:(S.feed W b).2=0):S.over=false/\b.size<=4096/\(S.feed W b).1=({S with pend:=Cn (K4 (S.pend++b)).ah,told:=[],YC:=[]}:SS).keys W (K4 (S.pend++b)).out:=by
 unfold SS.feed at he ⊢;by_cases h1:S.over=true
 ·rw[if_pos h1]at he;exact absurd (show(6:Int)=0 from he) QZ
 ·rw[if_neg h1]at he ⊢
  by_cases h2:4096<b.size
  ·rw[if_pos h2]at he;exact absurd (show(2:Int)=0 from he) QZ
  ·rw[if_neg h2]
   exact⟨QA1,QQ,rfl⟩
theorem zD.step{W:World}{N used:Nat}{most:Int}{S:SS}{l:List (Int×List Int)}{m:List Int}(h:zD N used most S l m)(b:ByteArray)(hN:used+b.size<=N)(he:(S.feed W b).2=0):
  zD N (used+b.size) most (S.feed W b).1 (l++(S.feed W b).1.told) (m++(S.feed W b).1.YC):=by
 obtain⟨ho,hb,e⟩:=jR he;obtain⟨K,hI,hK,hl,hm⟩:=h.inv;have hcnt:=Gl (S.pend++b);rw[ByteArray.size_append]at hcnt;have hnext:=FH.next (S.pend++b);have hps:=vQ (K4 (S.pend++b)).ah;rw[e];generalize(K4 (S.pend++b)).out=L at *;generalize Cn (K4 (S.pend++b)).ah=pd at *;obtain⟨S0,hS0⟩:∃S0:SS,S0={S with pend:=pd,told:=[],YC:=[]}:=⟨_,rfl⟩;rw[<-hS0];have hI0:XW K S0:=by rw[hS0];exact {hI with}
 have ho0:S0.over=false:=by rw[hS0];exact ho
 have ht0:S0.told=[]:=QBx;have hv0:S0.YC=[]:=QBx;have hp0:S0.pend=pd:=QBx;have hm0:S0.Z8.most=S.Z8.most:=QBx;have hw0:S0.width=S.width:=QBx;have hr0:S0.row=S.row:=QBx;have ha0:S0.rat=S.rat:=QBx;have hk:=uy (W:=W) L hI0 ho0 N QQ;obtain⟨mm,e1,e2,e3,e4⟩:=hk.told;rw[ht0,List.nil_append]at e1;have kH:=vo (W:=W) L hI0;rw[hv0]at kH;have hinv:=XW.keys (W:=W) L hI0;have hkp:=Cs (W:=W) L S0;have hkr:=Hr (W:=W) L (S0.row,S0.rat.toNat) hI0 (by rw[hv0];rfl);rw[hr0,ha0]at hkr;have hkw:=hk.width;have hkm:=hk.most;clear hS0 e;generalize S0.keys W L=S' at *;have hl4:∀e∈l,e.1≠4:=by
  rcases h.ends with h|h
  ·exact h.2
  ·rw[ho]at h;exact absurd h.1 QZ
 refine {inv:=⟨K+L.length,hinv,by rw[hkp,hp0];omega,?_,?_⟩,pend:=by rw[hkp,hp0];exact hnext,lens:=fun e he=>?_,ends:=?_,most:=by rw[hkm,hm0];exact h.most,row:=?_}
 ·rw[e1,Zd,Nat.add_mul];omega
 ·rw[Zd,Nat.mul_add]
  simp at kH;omega
 ·rcases XL.1 he with he|he
  ·exact h.lens e he
  ·rw[e1]at he;exact e3 e he
 ·rw[e1]
  rcases e4 with⟨o,q⟩|⟨o,k,rfl,q⟩
  ·refine .inl ⟨o,fun e he=>?_⟩
   rcases XL.1 he with he|he
   ·exact hl4 e he
   ·exact q e he
  ·refine .inr ⟨o,l++k,by rw[List.append_assoc],fun e he=>?_⟩
   rcases XL.1 he with he|he
   ·exact hl4 e he
   ·exact q e he
 ·rw[Kc,hkw,hw0,h.row]
  exact hkr
def EG(most width:Int)(v:Value):List Value:=
 [.pointer none,.int .i64 0,.int .i64 1]++List.replicate 27 (.slice none 0 0)++[.int .i64 0,.int .i64 0,.int .i64 0,.int .i64 0,.int .i64 0,.int .i64 0,.int .i64 0,.slice none 0 0,.int .i64 most,.int .i64 0,.slice none 0 0,.slice none 0 0,.bool false,.slice none 0 0,.slice none 0 0,.pointer none,.pointer none,.pointer none,.slice none 0 0,.bool false,.string ⟨#[]⟩,.int .i64 0,.int .i64 width,v,.int .i64 0,.bool false,.slice none 0 0,.slice none 0 0]
def bA(most width:Int)(v:Value):Nat->Value:=fun i=>(EG most width v).getD i undef
theorem QQ1(most width:Int)(v:Value):Sg (bA most width v)=List.replicate 27 (.slice none 0 0):=rfl
theorem bu(F:Nat->Prop)(w:World)(most width:Int)(v:Value):Yd F w (Sg (bA most width v)) (List.replicate 27 []):=by
 rw[QQ1];refine⟨rfl,fun i hi=>?_⟩;rw[JJ]at hi;rw[VY (by rw[JJ];exact hi),vU (by rw[JJ];exact hi),List.getElem_replicate,List.getElem_replicate];exact Yf.nil _ _
theorem QQ2{F G:Nat->Prop}{w:World}{B:Nat}{most width:Int}{v:Value}(hFG:∀k,F k->G k)(hG:∀k,G k->k<w.heap.size)(hb:Za w B (EG most width v).toArray 112)(hB:¬F B)(hGB:G B)
  (hv:Yf F w v (List.replicate width.toNat 32)):HF F G w B (bA most width v) (SS.new most width):=
 {
  fg:=hFG
  lt:=hG
  d:={
   text:=Wv.nil _ _,pos:=rfl,mode:=rfl,lr:=rfl
   regs:=bu F w most width v
   fk:=rfl,fa:=rfl,p0:=rfl,p1:=rfl,p2:=rfl,p3:=rfl,p4:=rfl
   Z8:=⟨⟨[],Dx.nil _ _,⟨rfl,fun i hi=>by simp[SS.new]at hi⟩⟩,rfl,rfl,Yf.nil _ _,Yf.nil _ _,rfl⟩
   OO:=rfl,C8:=rfl,holder:=rfl,past:=fA.nil _ _,fut:=rfl,first:=Wv.nil _ _,last:=rfl,ask:=Yf.nil _ _,older:=rfl,pend:=rfl,off:=rfl,width:=rfl,row:=hv,rat:=rfl,over:=rfl}
  m:={
   blk:=hb,nB:=hB,gB:=hGB,now:=rfl,told:=⟨[],Xb.nil _ _ _,ji.nil _ _⟩,Y0:=fun k hk=>by simp[bA,EG,Value.ownBlock]at hk
   YC:=YR _ _ _ _,J6:=fun k hk=>by simp[bA,EG,Value.ownBlock]at hk}}
def QKs(most width:Int)(w:World)(e:Ending)(w':World):Prop:=
 Below w.heap.size w w'/\((¬(1<=most/\most<=50/\2<=width/\width<=120)/\e=.returned (.tuple #[.pointer none,.int .i64 1]))\/
  ((1<=most/\most<=50/\2<=width/\width<=120)/\∃B F,e=.returned (.tuple #[.pointer (some ⟨B,0,none⟩),.int .i64 0])/\Yv F (fun k=>w.heap.size<=k/\k<w'.heap.size) w' B (SS.new most width)))
theorem QQO(most width:Int)(w:World):Calls Tryz.prog 25 #[.int .i64 most,.int .i64 width] w (QKs most width w):=by
 by_cases hm:most<1\/50<most
 ·have hno:¬(1<=most/\most<=50/\2<=width/\width<=120):=by omega
  have Kj:=Zy hno;clear hno;by_cases h1:most<1
  ·clear hm
   exact QFH
  ·have h2:50<most:=by omega
   clear hm;exact QFH
 ·have h1:¬most<1:=by omega
  have h2:¬50<most:=QQ;clear hm;by_cases hw:width<2\/120<width
  ·have Kj:=Zy (show¬(1<=most/\most<=50/\2<=width/\width<=120) from QQ)
   have HT:=Zy (Dp width w hw);clear hw;go_enter Tryz.func25,Tryz.ntmps25
   go_wp2_with fail
   refine HT.out.mono ?_;rintro e w2 ⟨rfl,hb2⟩;go_wp2;go_ret2
   exact⟨Zo.alloc hb2,.inl ⟨Kj.out,rfl⟩⟩
  ·obtain⟨k,rfl⟩:=Z9 (show 0<=width from QQ)
   have QqA:=Zy (show(1<=most/\most<=50/\2<=(k:Int)/\(k:Int)<=120) from QQ);have HT:=Zy (GH k w QQ QQ);clear hw;go_enter Tryz.func25,Tryz.ntmps25
   go_wp2_with fail
   refine HT.out.mono ?_;rintro e w2 ⟨v,rfl,o2,hb2⟩;obtain⟨a2,n2,c2,rfl⟩:=o2.form;have HO:=Zy o2;have HB2:=Zy hb2;clear o2 hb2;go_wp2;go_ret2
   have hb2:=HB2.out;have hz:=hb2.size;have hb4:Below w.heap.size w ((w2.alloc (.cells #[.slice a2 n2 c2,.int .i64 0] 39)).alloc (.cells (EG most k (.slice a2 n2 c2)).toArray 112)):=Zo.alloc (Zo.alloc hb2);have hs:Yf (fun k=>w.heap.size<=k/\k<w2.heap.size) w2 (.slice a2 n2 c2) (List.replicate k 32):=HO.out.jr.lt;have hs4:=(hs.below (ZT w2 (.cells #[.slice a2 n2 c2,.int .i64 0] 39))).below (ZT _ (.cells (EG most k (.slice a2 n2 c2)).toArray 112));have hB:=Za.new (w2.alloc (.cells #[.slice a2 n2 c2,.int .i64 0] 39)) (EG most k (.slice a2 n2 c2)).toArray 112;have hsz:(w2.alloc (.cells #[.slice a2 n2 c2,.int .i64 0] 39)).heap.size=w2.heap.size+1:=Zv _ _;have QJH:((w2.alloc (.cells #[.slice a2 n2 c2,.int .i64 0] 39)).alloc (.cells (EG most k (.slice a2 n2 c2)).toArray 112)).heap.size=w2.heap.size+1+1:=by rw[Zv,hsz]
   have hfin:QKs most k w (.returned (.tuple #[.pointer (some ⟨(w2.alloc (.cells #[.slice a2 n2 c2,.int .i64 0] 39)).heap.size,0,none⟩),.int .i64 0])) ((w2.alloc (.cells #[.slice a2 n2 c2,.int .i64 0] 39)).alloc (.cells (EG most k (.slice a2 n2 c2)).toArray 112)):=
    ⟨hb4,.inr ⟨QqA.out,_,(fun k=>w.heap.size<=k/\k<w2.heap.size),rfl,_,QQ2 (fun j hj=>⟨hj.1,by rw[QJH];omega⟩) (fun j hj=>hj.2) hB (fun e=>by rw[hsz]at e;omega) ⟨by rw[hsz];omega,by rw[QJH,hsz];omega⟩ (by rw[Xq];exact hs4)⟩⟩
   rw[hsz]at hfin;exact hfin
theorem W9.QYw{F G:Nat->Prop}{w:World}{B:Nat}{f:Nat->Value}{S:SS}(h:W9 F G w B f S):∀k,Sk w f k->G k:=by
 rintro k (hk|hk|⟨C,hC,hk⟩)
 ·exact(h.Y0 k hk).2
 ·exact(h.J6 k hk).2
 ·have hn:=h.now
  cases ho:S.now with
  | none=>
   exact QFK
  | some p=>
   rw[ho]at hn;obtain⟨C',tv,h1,h2,h3,h4,h5,h6⟩:=hn;rw[hC]at h1;simp only[Value.pointer.injEq,ZM,YB,and_true]at h1;subst h1;rcases hk with rfl|⟨TL,h7,h8⟩
   ·exact h3
   ·rw[show w.cell? ⟨C,5,none⟩=some tv from h4.cell 5]at h7
    simp only[ZM]at h7;subst h7;exact(h6 k h8).2.1
theorem HF.other{F G:Nat->Prop}{w w':World}{B:Nat}{f:Nat->Value}{S:SS}(h:HF F G w B f S)(hs:∀k,G k->w'.heap[k]? =w.heap[k]?)(hz:w.heap.size<=w'.heap.size):HF F G w' B f S:=by
 have hF:Same F w w':=fun k hk=>hs k (h.fg k hk)
 refine⟨h.fg,fun k hk=>Zc (h.lt k hk) hz,h.d.keep hF.JB hF.blk (fun _ h=>h),h.m.move (fun _ h=>h) hF.JB fun k hk=>hs k ?_⟩;rcases hk with rfl|hk
 ·exact h.m.gB
 ·exact h.m.QYw k hk
theorem Gi(w:World)(ty:TypeId)(v:Value)(es:List V2)(base c2:Nat)(a2:Option Addr)(hown:Xb 45 base w v es)(hl:es.length<=4398046511104):
  (Builtin.append_ #[25,25] ty #[v,.slice a2 0 c2]).run Tryz.prog w=.ok v w:=by
 obtain⟨i0,hi,hz0,hz1,hz2⟩:=Xf Ep;have hu:=Tryz.underlying25;rcases hown.2 with⟨rfl,h0⟩|⟨g,cap,cur,rfl,hb,hg,hn,hm,hs,ht⟩
 ·cases a2<;>simp[Builtin.append_,Yn hu,sizeOf,typeInfo,hi,Builtin.lenOf,Builtin.firstCells,loadCells,loadCellsFrom,storeCells]
 ·cases a2<;>simp[Builtin.append_,Yn hu,sizeOf,typeInfo,hi,Builtin.lenOf,Builtin.firstCells,loadCells,loadCellsFrom,storeCells,hn]
theorem QKb{ops:Array Oper}{rest:List Oper}{o:Oper}{a:Act}{Q:Exit->Act->World->Prop}{w:World}(hgd:o.guard=none)(s x:Operand)
  (ho:o.op=.call {callee:=.builtin .append,args:=#[s,x],argTypes:=#[25,25]})
  (base:Nat) (v:Value) (es us:List V2) (ad:Option Addr) (m c:Nat) (hs:a.eval s=v) (hx:a.eval x=.slice ad m c)
  (hown:Xb 45 base w v es) (hy:X0 w ad us) (hok:∀u∈us,V2.ok u) (hm:us.length=m) (h0:ad=none->m=0) (hl:es.length+m<=4398046511104) (hbase:base<=w.heap.size)
  (h:∀v' w',Xb 45 base w' v' (es++us)->w.grownBy w' v.ownBlock->(v'.ownBlock=v.ownBlock\/v'.ownBlock=some w.heap.size)->wpList Tryz.prog ops Q rest (a.put o.dst v') w'):
  wpList Tryz.prog ops Q (o::rest) a w:=by
 rcases XM m with hz|hz
 ·subst hz
  obtain rfl:us=[]:=Ze hm;refine Lib.wpList_append_run w hgd s x _ _ ho v (.slice ad 0 c) hs hx v w (Gi w _ v es base c ad hown QQ) ?_;exact h v w QBH ⟨rfl,rfl,rfl,ZB _,fun _ _ _=>rfl⟩ (.inl rfl)
 ·rcases ad with _|ad
  ·have:=h0 rfl;omega
  ·exact QQn (T:=45) (ST:=25) Tryz.underlying25 Ep rfl QZ hgd s x ho base v es us ad m c hs hx hown hy hok hm hl hbase hz h
def Strs(w:World)(a:Option Addr)(T:List ByteArray):Prop:=T=[]\/∃b o,a=some ⟨b,o,none⟩/\∀i (h:i<T.length),w.cell? ⟨b,o+i,none⟩=some (.string T[i])
def Jf(T:List ByteArray):Nat:=(T.map ByteArray.size).sum
noncomputable def Un(W:World):List ByteArray->SS->List (Int×List Int)->List Int->Option (SS×List (Int×List Int)×List Int)
 | [],S,l,m=>some (S,l,m)
 | b::T,S,l,m=>if(S.feed W b).2=0 then Un W T (S.feed W b).1 (l++(S.feed W b).1.told) (m++(S.feed W b).1.YC)else none
theorem IG{W:World}{N:Nat}{most:Int}:∀(T:List ByteArray) {used:Nat} {S:SS} {l:List (Int×List Int)} {m:List Int} {S':SS} {l':List (Int×List Int)} {m':List Int},zD N used most S l m->used+Jf T<=N->Un W T S l m=some (S',l',m')->zD N (used+Jf T) most S' l' m'
 | [],used,S,l,m,S',l',m',h,hN,e=>by
  simp only[Un,ZM,Yg]at e;obtain⟨rfl,rfl,rfl⟩:=e;exact h
 | b::T,used,S,l,m,S',l',m',h,hN,e=>by
  have hs:Jf (b::T)=b.size+Jf T:=rfl;rw[hs]at hN ⊢;unfold Un at e;by_cases hz:(S.feed W b).2=0
  ·rw[if_pos hz]at e
   have:=IG T (h.step (W:=W) b QQ hz) QQ e
   rwa[Nat.add_assoc]at this
  ·rw[if_neg hz]at e;cases e
structure uQ (w0 w:World) (B:Nat) (G F:Nat->Prop) (f:Nat->Value) (S:SS) (v1 v2:Value) (l:List (Int×List Int)) (m:List Int):Prop where
 hf:HF F G w B f S
 ev:∃us,Xb 45 w0.heap.size w v1 us/\ji F w us l
 sg:Own 3 w0.heap.size w v2 m
 n1:∀k,v1.ownBlock=some k->¬G k
 n2:∀k,v2.ownBlock=some k->¬G k
 gl:∀k,G k->w0.heap.size<=k
 YX:Below w0.heap.size w0 w
def Qzz(W:World)(most width:Int)(T:List ByteArray)(w:World)(e:Ending)(w':World):Prop:=
 Below w.heap.size w w'/\((e=.returned (.tuple #[.pointer none,.slice none 0 0,.slice none 0 0,.bool false])/\((1<=most/\most<=50/\2<=width/\width<=120)->Un W T (SS.new most width) [] []=none))\/
  ((1<=most/\most<=50/\2<=width/\width<=120)/\∃B G F f S v1 v2 l m,Un W T (SS.new most width) [] []=some (S,l,m)/\e=.returned (.tuple #[.pointer (some ⟨B,0,none⟩),v1,v2,.bool true])/\uQ w w' B G F f S v1 v2 l m))
theorem ji.ok{F:Nat->Prop}{w:World}{us:List V2}{es:List (Int×List Int)}(h:ji F w us es):∀u∈us,V2.ok u:=fun u hu=>by
 obtain⟨i,hi,e⟩:=Xw.1 hu;obtain⟨h1,h2⟩:=h.2 i (by rw[<-h.1];exact hi);rw[yT hi,e]at h1 h2;obtain⟨a,n,c,h3⟩:=h2.form;exact⟨by rw[h1];rfl,by rw[h3];rfl⟩
theorem ji.append{F:Nat->Prop}{w:World}{us vs:List V2}{es fs:List (Int×List Int)}(h:ji F w us es)(g:ji F w vs fs):ji F w (us++vs) (es++fs):=by
 refine⟨by simp[h.1,g.1],fun i hi=>?_⟩;by_cases hlt:i<es.length
 ·rw[uR (by rw[h.1];exact hlt),List.getElem_append_left hlt]
  exact h.2 i hlt
 ·obtain⟨k,rfl⟩:∃k,i=es.length+k:=⟨i-es.length,QQ⟩
  have h1:zT (us++vs) (es.length+k)=zT vs k:=by rw[<-h.1];exact yS
  rw[h1,List.getElem_append_right QQ];simp only[Nat.add_sub_cancel_left];exact g.2 k (by rw[Zd]at hi;omega)
theorem Own.blk{e:TypeId}{base:Nat}{w:World}{v:Value}{xs:List Int}(h:Own e base w v xs){k:Nat}(hk:v.ownBlock=some k):∃cur,Za w k cur e:=by
 rcases h.2 with⟨h0,_⟩|⟨g,cap,cur,h0,hb',hgg,rest⟩
 ·rw[h0]at hk;simp[Value.ownBlock]at hk
 ·rw[h0]at hk
  simp only[Value.ownBlock,ZM]at hk;subst hk;exact⟨cur,hgg⟩
theorem uQ.feed{w0 w w6:World}{B:Nat}{G F F6:Nat->Prop}{f f6:Nat->Value}{S S6:SS}{v1 v2:Value}{l:List (Int×List Int)}{m:List Int}(h:uQ w0 w B G F f S v1 v2 l m)(hA:At F G w F6 w6 B f6 S6):
  uQ w0 w6 B (Gx G w w6) F6 f6 S6 v1 v2 l m:=by
 obtain⟨us,h1,h2⟩:=h.ev;have hz:=hA.step.size;have hb:∀k,k<w.heap.size->¬G k->w6.heap[k]? =w.heap[k]?:=hA.step.block;refine⟨hA.hf,⟨us,h1.moved fun k hk=>hb k (h1.lt k hk) (h.n1 k hk),h2.keep hA.same.JB hA.sub⟩,h.sg.moved fun k hk=>hb k (h.sg.uq k hk) (h.n2 k hk),fun k hk e=>?_,fun k hk e=>?_,fun k hk=>?_,⟨hA.step.os.trans h.YX.os,hA.step.tape.trans h.YX.tape,hA.step.output.trans h.YX.output,Zh h.YX.size hz,fun k hk=>?_⟩⟩
 ·rcases e with e|e
  ·exact h.n1 k hk e
  ·have:=h1.lt k hk;omega
 ·rcases e with e|e
  ·exact h.n2 k hk e
  ·have:=h.sg.uq k hk;omega
 ·rcases hk with hk|hk
  ·exact h.gl k hk
  ·have:=h.YX.size;omega
 ·rw[hb k (Zc hk h.YX.size) (fun e=>by have:=h.gl k e;omega)]
  exact h.YX.block k hk
theorem uQ.evs{w0 w w7:World}{B:Nat}{G F:Nat->Prop}{f:Nat->Value}{S:SS}{v1 v2 v7:Value}{l fs:List (Int×List Int)}{m:List Int}{us vs:List V2}(h:uQ w0 w B G F f S v1 v2 l m)(hu:Xb 45 w0.heap.size w v1 us)(hl:ji F w us l)(hf:ji F w vs fs)
  (o:Xb 45 w0.heap.size w7 v7 (us++vs)) (hg:w.grownBy w7 v1.ownBlock) (hat:v7.ownBlock=v1.ownBlock\/v7.ownBlock=some w.heap.size):uQ w0 w7 B G F f S v7 v2 (l++fs) m:=by
 have hG:∀k,G k->w7.heap[k]? =w.heap[k]?:=fun k hk=>hg.block k (h.hf.lt k hk) (fun e=>h.n1 k e.symm hk)
 have hF:Same F w w7:=fun k hk=>hG k (h.hf.fg k hk)
 refine⟨h.hf.other hG hg.size,⟨us++vs,o,(hl.append hf).keep hF.JB (fun _ h=>h)⟩,h.sg.moved fun k hk=>hg.block k (h.sg.uq k hk) (fun e=>?_),fun k hk e=>?_,h.n2,h.gl,h.YX.grown hg h.YX.size fun k hk=>hu.row k hk⟩
 ·obtain⟨cur,hc⟩:=h.sg.blk hk
  exact hu.Xa hc QZ e
 ·rcases hat with q|q
  ·rw[q]at hk;exact h.n1 k hk e
  ·rw[q]at hk
   simp only[ZM]at hk;have:=h.hf.lt k e;omega
theorem uQ.sgs{w0 w w8:World}{B:Nat}{G F:Nat->Prop}{f:Nat->Value}{S:SS}{v1 v2 v8:Value}{l:List (Int×List Int)}{m ms:List Int}(h:uQ w0 w B G F f S v1 v2 l m)
  (o:Own 3 w0.heap.size w8 v8 (m++ms)) (hg:w.grownBy w8 v2.ownBlock) (hat:v8.ownBlock=v2.ownBlock\/v8.ownBlock=some w.heap.size):uQ w0 w8 B G F f S v1 v8 l (m++ms):=by
 have hG:∀k,G k->w8.heap[k]? =w.heap[k]?:=fun k hk=>hg.block k (h.hf.lt k hk) (fun e=>h.n2 k e.symm hk)
 have hF:Same F w w8:=fun k hk=>hG k (h.hf.fg k hk)
 obtain⟨us,h1,h2⟩:=h.ev;refine⟨h.hf.other hG hg.size,⟨us,h1.moved fun k hk=>hg.block k (h1.lt k hk) (fun e=>?_),h2.keep hF.JB (fun _ h=>h)⟩,o,h.n1,fun k hk e=>?_,h.gl,h.YX.grown hg h.YX.size fun k hk=>h.sg.row k hk⟩
 ·obtain⟨cur,hc⟩:=h.sg.blk e.symm
  exact h1.Xa hc QZ hk.symm
 ·rcases hat with q|q
  ·rw[q]at hk;exact h.n2 k hk e
  ·rw[q]at hk
   simp only[ZM]at hk;have:=h.hf.lt k e;omega
theorem Pz{T:List ByteArray}{j:Nat}(hj:j<T.length):Jf (T.take (j+1))=Jf (T.take j)+T[j].size:=by
 unfold Jf;rw[XX hj,List.map_append,List.sum_append,List.map_cons,List.map_nil,List.sum_cons,List.sum_nil,X8]
theorem lX{T:List ByteArray}(j:Nat):Jf (T.take j)<=Jf T:=by
 have:Jf T=Jf (T.take j)+Jf (T.drop j):=by
  unfold Jf;rw[<-List.sum_append,<-List.map_append,List.take_append_drop]
 omega
theorem iI(W:World)(most width:Int)(ta:Option Addr)(tn tc N:Nat)(T:List ByteArray)(w:World)(hT:Strs w ta T)(hn:T.length=tn)(hN:Jf T<=N)(hNb:N<=1048576)(htn:tn<=1048576):
  Calls Tryz.prog 13 #[.int .i64 most,.int .i64 width,.slice ta tn tc] w (Qzz W most width T w):=by
 have HT:=Zy hT;have HN:=Zy hn;have HS:=Zy hN;clear hT hn hN;go_enter Tryz.func13,Tryz.ntmps13
 go_wp2_with fail
 refine(QQO most width w).mono ?_;rintro e w2 ⟨hb2,⟨hbad,rfl⟩|⟨hgood,B,F,rfl,f,hH⟩⟩
 ·have HBAD:=Zy hbad;have HB:=Zy hb2
  clear hbad hb2;go_wp2;refine ZC (v:=.tuple #[.pointer none,.slice none 0 0,.slice none 0 0,.bool false]) QAm rfl ?_;exact⟨HB.out,.inl ⟨rfl,fun h=>absurd h HBAD.out⟩⟩
 ·have HG:=Zy hgood;have HB:=Zy hb2
  have hR0:uQ w w2 B (fun k=>w.heap.size<=k/\k<w2.heap.size) F f (SS.new most width) (.slice none 0 0) (.slice none 0 0) [] []:=
   ⟨hH,⟨[],Xb.nil _ _ _,ji.nil _ _⟩,YR _ _ _ _,fun k hk=>QBa,fun k hk=>QBa,fun k hk=>hk.1,hb2⟩
  have Ja:=Zy hR0;clear hgood hb2 hR0 hH;go_wp2
  go_loopw [33,12,13] (fun x y1 y2 wr=>∃(j:Nat) (G F:Nat->Prop) (f:Nat->Value) (S:SS) (l:List (Int×List Int)) (m:List Int),x=.int .i64 (j:Int)/\j<=tn/\uQ w wr B G F f S y1 y2 l m/\zD N (Jf (T.take j)) most S l m/\Un W T (SS.new most width) [] []=Un W (T.drop j) S l m) (fun x _ _ _=>tn-(intOf x).toNat)
  case atStart=>exact⟨0,_,_,_,_,_,_,rfl,Z0 _,Ja.out,zD.new HG.out,rfl⟩
  case round=>
   obtain⟨j,G,F,f,S,l,m,rfl,hj,hR,hI,RF⟩:=hrel;by_cases hlt:j<tn
   ·as_aux_lemma=>
    have hi0:(0:Int)<=(j:Int):=QQ;have hin:(j:Int)<(tn:Int):=QQ;have hjt:j<T.length:=Qx;obtain⟨b1,o1,rfl,cv⟩:∃b o,ta=some ⟨b,o,none⟩/\wr.cell? ⟨b,o+j,none⟩=some (.string T[j]):=by
     rcases HT.out with h|⟨b,o,h1,h2⟩
     ·rw[h]at hjt;simp at hjt
     ·exact⟨b,o,h1,ZL hR.YX _ _ (h2 j hjt)⟩
    have hdr:T.drop j=T[j]::T.drop (j+1):=List.drop_eq_getElem_cons hjt;have htk:=Pz hjt;have hle:=lX (T:=T) (j+1);generalize T[j]=tj at *;obtain⟨K,hI1,hI2,DZ,gL⟩:=hI.inv;have hsn:=HS.out;have HFD:=Zy (Ns W F G B K S tj wr ⟨f,hR.hf⟩ hI1 hI.pend QQ);obtain⟨us,hu,OI⟩:=hR.ev;obtain⟨ya,yn,yc,rfl⟩:=hu.form;obtain⟨za,zn,zc,rfl⟩:=hR.sg.form;have HR:=Zy hR;have HI:=Zy hI;have TU:=Zy RF;have HDR:=Zy hdr;have HTK:=Zy htk;have hle2:Jf (T.take j)+tj.size<=N:=QQ;have SF:=Zy hle2;clear hR hI RF hdr htk hle hI1 hI2 DZ gL hsn hu OI us hle2;go_wp2_with fail
    refine HFD.out.mono ?_;rintro e w6 ⟨F6,f6,Vt,⟨hz,rfl⟩|⟨hnz,rfl⟩⟩
    ·have M8:=HR.out.feed Vt
     have hI6:=HI.out.step (W:=W) tj SF.out hz;obtain⟨us,hu,OI⟩:=M8.ev;obtain⟨vs,hv,hvl⟩:=Vt.hf.m.told;have kH:=Vt.hf.m.YC;obtain⟨pa,pn,pc,h56⟩:=hv.form;obtain⟨sa,sn,sc,h57⟩:=kH.form;rw[h56]at hv;rw[h57]at kH;rw[h56,h57];obtain⟨p1,p2,p3,p4,p5⟩:=hv.su.get;obtain⟨s1,s2,s3,s4,s5⟩:=kH.sl.get;obtain⟨K6,i1,i2,i3,i4⟩:=hI6.inv;have hK6:K6<=N:=by have:=SF.out;omega
     have hmul:K6*(N+2)<=1048576*1048578:=Nat.mul_le_mul QQ QQ;have hle1:us.length+pn<=4398046511104:=by
      rw[OI.1,<-p1,hvl.1];rw[Zd]at i3;omega
     have hle2:m.length+sn<=17592186044416:=by
      rw[Zd,s1]at i4;omega
     have hb6:=M8.YX.size;have dK:Un W T (SS.new most width) [] []=Un W (T.drop (j+1)) (S.feed W tj).1 (l++(S.feed W tj).1.told) (m++(S.feed W tj).1.YC):=by
      rw[TU.out,HDR.out]
      show(if(S.feed W tj).2=0 then _ else _)=_
      rw[if_pos hz]
     rw[<-HTK.out]at hI6;have HR6:=Zy M8;have HI6:=Zy hI6;have HU:=Zy hu;have F8:=Zy OI;have Sv:=Zy hvl;have pg:=Zy p1;have HP4:=Zy p4;have HP5:=Zy p5;have BU:=Zy s1;have HS4:=Zy s4;have LB:=Zy s5;have HF6:=Zy dK;have Cz:=Zy hle1;have HL2:=Zy hle2;have HVI:=Zy kH;clear Vt M8 hI6 hu OI hv hvl kH h56 h57 p1 p2 p3 p4 p5 s1 s2 s3 s4 s5 i1 i2 i3 i4 hK6 hmul hle1 hle2 dK hz;go_wp2_with (first|(at_builtin;refine QKb rfl _ _ rfl w.heap.size (.slice ya yn yc) us vs pa pn pc rfl rfl HU.out HP4.out Sv.out.ok pg.out HP5.out Cz.out hb6 ?_;intro v7 w7 o7 hg7 QWH;have qx:=HR6.out.evs HU.out F8.out Sv.out o7 hg7 QWH;have HR7:=Zy qx;have qz:=qx.YX.size;have hints:Ints w7 sa (S.feed W tj).1.YC:=(by have AJ:Own 3 0 w7 (.slice sa sn sc) (S.feed W tj).1.YC:=HVI.out.moved (fun k hk=>hg7.block k (HVI.out.uq k hk) (fun e=>by obtain⟨cur,hc⟩:=HVI.out.blk hk;exact HU.out.Xa hc QZ e));exact AJ.get.2.1);have HIN:=Zy hints;clear qx hints;obtain⟨a7,n7,c7,rfl⟩:=o7.form)|(at_builtin;refine fq rfl _ _ rfl w.heap.size (.slice za zn zc) m (S.feed W tj).1.YC sa sn sc rfl rfl HR7.out.sg HIN.out BU.out LB.out HL2.out qz ?_;intro v8 w8 o8 gG nV;have HR8:=Zy (HR7.out.sgs o8 gG nV);clear gG nV;obtain⟨a8,n8,c8,rfl⟩:=o8.form))
     exact⟨⟨j+1,_,_,_,_,_,_,Qk,QQ,HR8.out,HI6.out,HF6.out⟩,Qp⟩
    ·have QjG:((S.feed W tj).2 !=0)=true:=by simpa using hnz
     have M8:=HR.out.feed Vt;have dK:Un W T (SS.new most width) [] []=none:=by
      rw[TU.out,HDR.out]
      show(if(S.feed W tj).2=0 then _ else _)=_
      rw[if_neg hnz]
     have gY:=Zy M8.YX;have HF6:=Zy dK;clear Vt M8 dK hnz;generalize(S.feed W tj).2=er at *;go_wp2;refine ZC (v:=.tuple #[.pointer none,.slice none 0 0,.slice none 0 0,.bool false]) QAm rfl ?_;exact⟨gY.out,.inl ⟨rfl,fun _=>HF6.out⟩⟩
   ·as_aux_lemma=>
    obtain rfl:j=tn:=QQ;have hdr:T.drop j=[]:=List.drop_eq_nil_of_le (by rw[HN.out];exact ZB _);have HR:=Zy hR;have TU:=Zy (show Un W T (SS.new most width) [] []=some (S,l,m) by rw[RF,hdr];rfl);clear hR hI RF hdr hlt;obtain⟨us,hu,-⟩:=HR.out.ev;obtain⟨ya,yn,yc,rfl⟩:=hu.form;obtain⟨za,zn,zc,rfl⟩:=HR.out.sg.form;clear hu us;go_wp2;refine ZC (v:=.tuple #[.pointer (some ⟨B,0,none⟩),.slice ya yn yc,.slice za zn zc,.bool true]) QAm rfl ?_;exact⟨HR.out.YX,.inr ⟨HG.out,B,G,F,f,S,_,_,l,m,TU.out,rfl,HR.out⟩⟩
def zS:List Value:=[.slice none 0 0,.int .i64 0,.int .i64 0,.int .i64 0,.int .i64 0,.int .i64 0,.int .i64 0,.int .i64 0,.int .i64 0,.int .i64 0]++Xu++[.int .i64 0,.slice none 0 0,.int .i64 0,.bool false,.slice none 0 0,.int .i64 0,.int .i64 0]
theorem Uy:zS.length=44:=rfl
abbrev Xc:Obj:=.cells (XP zS) 41
theorem A7(w:World):(Instr.alloc 41 true (.tuple #[])).run Tryz.prog w=.ok (.pointer (some ⟨w.heap.size,0,none⟩)) (w.alloc Xc):=QX
theorem WY:(Tryz.prog.info? 41).map (·.size)=some 44:=QX
def qL(v:Value)(S:SS)(n:Nat)(r:Value):List Value:=[v,.int .i64 S.pos,.int .i64 S.mode,.int .i64 S.part.a,.int .i64 S.part.b,.int .i64 S.part.c,.int .i64 S.part.d,.int .i64 S.part.e,.int .i64 S.fk,.int .i64 S.fa]++Xu++[.int .i64 (n:Int),.slice none 0 0,.int .i64 0,.bool S.over,r,.int .i64 S.rat,.int .i64 S.off]
theorem RZ(v:Value)(S:SS)(n:Nat)(r:Value):(qL v S n r).length=44:=rfl
theorem Ic(a:Option Addr)(n c:Nat)(p md x0 x1 x2 x3 x4 fk fa:Int)(l:Int)(ov:Bool)(ra:Option Addr)(rn rc:Nat)(rat off:Int)(w:World):
  (Instr.build 41 #[(0,.agg #[.slice a n c,.int .i64 p]),(1,.int .i64 md),(2,.agg #[.int .i64 x0,.int .i64 x1,.int .i64 x2,.int .i64 x3,.int .i64 x4]),(3,.agg #[.int .i64 fk,.int .i64 fa]),(5,.int .i64 l),(8,.bool ov),(9,.agg #[.slice ra rn rc,.int .i64 rat]),(10,.int .i64 off)]).run Tryz.prog w
   =.ok (.agg (XP ([.slice a n c,.int .i64 p,.int .i64 md,.int .i64 x0,.int .i64 x1,.int .i64 x2,.int .i64 x3,.int .i64 x4,.int .i64 fk,.int .i64 fa]++Xu++[.int .i64 l,.slice none 0 0,.int .i64 0,.bool ov,.slice ra rn rc,.int .i64 rat,.int .i64 off]))) w:=QX
theorem NC(a:Option Addr)(n c:Nat)(S:SS)(l:Nat)(ra:Option Addr)(rn rc:Nat)(w:World):
  (Instr.build 41 #[(0,.agg #[.slice a n c,.int .i64 S.pos]),(1,.int .i64 S.mode),(2,.agg #[.int .i64 S.part.a,.int .i64 S.part.b,.int .i64 S.part.c,.int .i64 S.part.d,.int .i64 S.part.e]),(3,.agg #[.int .i64 S.fk,.int .i64 S.fa]),(5,.int .i64 (l:Int)),(8,.bool S.over),(9,.agg #[.slice ra rn rc,.int .i64 S.rat]),(10,.int .i64 S.off)]).run Tryz.prog w
   =.ok (.agg (XP (qL (.slice a n c) S l (.slice ra rn rc)))) w:=Ic ..
theorem Jp{w:World}{R:Nat}(h:w.heap.size=R):Xj (w.alloc Xc) R zS 41:=by subst h;exact Xj.new w zS _
theorem Xj.Dn{w:World}{B:Nat}(h:Xj w B zS 41):w.there B 0 44:=fun j hj=>⟨by rw[XN,h.cell (by rw[Uy];exact hj)];rfl,h.free _⟩
theorem jy(a:Option Addr)(n c:Nat)(S:SS)(l:Nat)(ra:Option Addr)(rn rc:Nat):∀v∈qL (.slice a n c) S l (.slice ra rn rc),v.oneCell'=true:=fun v hv=>by
 simp[qL,Xu]at hv;rcases hv with h|h|h|h|h|h|h|h|h|h|h|h|h|h|h|h|h|h<;>first|(rw[h];rfl)|(rw[h.2];rfl)
theorem WS{ops:Array Oper}{rest:List Oper}{op:Oper}{a:Act}{w:World}{Q:Exit->Act->World->Prop}{B:Nat}(hB:Xj w B zS 41)(hgd:op.guard=none)(x y:Operand)(ho:op.op=.store 41 x y)
  (hx:a.eval x=.pointer (some ⟨B,0,none⟩)) (us:List Value) (hy:a.eval y=.agg (XP us)) (hl:us.length=44) (h1:∀v∈us,v.oneCell'=true)
  (h:wpList Tryz.prog ops Q rest (a.put op.dst undef) (w.setCells B 0 us)):wpList Tryz.prog ops Q (op::rest) a w:=by
 refine wpList_store_mid hgd 41 x y ho B 0 (XP us) hx hy ?_ (by rw[Yl,hl];exact WY) (Y3 h1) h;rw[Yl,hl];exact hB.Dn
def EO(S:SS)(v:Value):List Value:=[v,.int .i64 S.pos,.int .i64 S.mode,.int .i64 S.part.a,.int .i64 S.part.b,.int .i64 S.part.c,.int .i64 S.part.d,.int .i64 S.part.e,.int .i64 S.fk,.int .i64 S.fa]
def mF(S:SS)(r lv:Value)(n:Nat)(wh:Int):List Value:=[.int .i64 (n:Int),lv,.int .i64 wh,.bool S.over,r,.int .i64 S.rat,.int .i64 S.off]
def zC(S:SS)(v r lv:Value)(rr:List Value)(n:Nat)(wh:Int):List Value:=EO S v++rr++mF S r lv n wh
section
variable {S:SS} {v r lv:Value} {rr:List Value} {n:Nat} {wh:Int}
theorem KM(hr:rr.length=27):(zC S v r lv rr n wh).length=44:=by simp[zC,EO,mF,hr]
theorem mD(hr:rr.length=27){j:Nat}(hj:j<27)(x:Value):(zC S v r lv rr n wh).set (10+j) x=zC S v r lv (rr.set j x) n wh:=by
 unfold zC;rw[List.set_append,if_pos (by simp[EO,hr];omega),List.set_append,if_neg (by simp[EO])];simp[EO]
theorem QQw(hr:rr.length=27)(x:Value):(zC S v r lv rr n wh).set 38 x=zC S v r x rr n wh:=by
 unfold zC;rw[List.set_append,if_neg QBI];simp[EO,mF,hr]
theorem QQ8(hr:rr.length=27)(x:Int):(zC S v r lv rr n wh).set 39 (.int .i64 x)=zC S v r lv rr n x:=by
 unfold zC;rw[List.set_append,if_neg QBI];simp[EO,mF,hr]
theorem uz(hr:rr.length=27):vx (zC S v r lv rr n wh) 38=lv:=by
 unfold vx zC;rw[Zf,XY QBI];simp[EO,mF,hr]
theorem bG(hr:rr.length=27){j:Nat}(hj:j<27):vx (zC S v r lv rr n wh) (10+j)=vx rr j:=by
 unfold vx zC;rw[Zf,XR (by simp[EO,hr];omega),XY (by simp[EO])];simp[EO,Zf]
end
structure Fs (S:SS) (w1 wr:World) (R:Nat) (v r lv:Value) (rr vs:List Value) (j1 j2 n:Nat) (wh:Int):Prop where
 lo:w1.heap.size<=R
 blk:Xj wr R (zC S v r lv rr n wh) 41
 t:Own 3 w1.heap.size wr v S.text
 ro:Own 3 w1.heap.size wr r S.row
 lr:rr.length=27
 rg:∀i,i<j1->Own 3 w1.heap.size wr (vx rr i) (rx S.regs i)
 lv:XT 26 w1.heap.size wr lv vs
 ll:vs.length=j2
 le:∀i,i<j2->Own 3 w1.heap.size wr (vx vs i) (rx S.Z8.ls i)
 YX:Below w1.heap.size w1 wr
section
variable {S:SS} {w1 wr w':World} {R:Nat} {v r lv:Value} {rr vs:List Value} {j1 j2 n:Nat} {wh:Int}
theorem Fs.below(h:Fs S w1 wr R v r lv rr vs j1 j2 n wh)(hb:Below wr.heap.size wr w'):Fs S w1 w' R v r lv rr vs j1 j2 n wh:=
 {h with blk:=h.blk.YP hb,t:=h.t.kept hb,ro:=h.ro.kept hb,rg:=fun i hi=>(h.rg i hi).kept hb,lv:=h.lv.kept hb,le:=fun i hi=>(h.le i hi).kept hb,YX:=h.YX.trans (hb.mono h.YX.size)}
theorem Own.xP{w:World}{base B i:Nat}{u v:Value}{us:List Value}{xs:List Int}(h:Own 3 base w v xs)(hB:Xj w B us 41):Own 3 base (w.setCell ⟨B,i,none⟩ u) v xs:=h.other (a:=⟨B,i,none⟩) (h.Xa (show Za w B (XP us) 41 from hB) QZ) u
theorem XT.xP{w:World}{base B i:Nat}{u v:Value}{us vs:List Value}(h:XT 26 base w v vs)(hB:Xj w B us 41):XT 26 base (w.setCell ⟨B,i,none⟩ u) v vs:=h.other (a:=⟨B,i,none⟩) (h.Xa (show Za w B (XP us) 41 from hB) QZ) u
theorem Fs.reg(h:Fs S w1 wr R v r lv rr vs j1 j2 n wh)(hj:j1<27){x:Value}(o:Own 3 w1.heap.size wr x (rx S.regs j1)):
  Fs S w1 (wr.setCell ⟨R,10+j1,none⟩ x) R v r lv (rr.set j1 x) vs (j1+1) j2 n wh:=
 {
  lo:=h.lo
  blk:=by rw[<-mD h.lr hj];exact h.blk.set _ _
  t:=h.t.xP h.blk,ro:=h.ro.xP h.blk,lr:=by rw[X4];exact h.lr
  rg:=fun i hi=>by
   by_cases e:j1=i
   ·subst e;rw[Yk (by rw[h.lr];exact hj)];exact o.xP h.blk
   ·rw[ZR e];exact(h.rg i QQ).xP h.blk
  lv:=h.lv.xP h.blk,ll:=h.ll,le:=fun i hi=>(h.le i hi).xP h.blk,YX:=h.YX.setCell h.lo _}
theorem Own.ltN{e e':TypeId}{base base':Nat}{w w':World}{v lv:Value}{vs:List Value}{xs:List Int}(h:Own e base w v xs)(hv:XT e' base' w lv vs)(he:e'≠e)(hg:w.grownBy w' lv.ownBlock):Own e base w' v xs:=by
 refine h.moved fun k hk=>hg.block k (h.uq k hk) fun e2=>?_
 rcases h.2 with⟨h0,_⟩|⟨g,cap,cur,rfl,hb',hgg,rest⟩
 ·rw[h0]at hk;simp[Value.ownBlock]at hk
 ·simp only[Value.ownBlock,ZM]at hk
  subst hk;exact hv.Xa (show Za w g cur _ from hgg) he e2
theorem Fs.line(h:Fs S w1 wr R v r lv rr vs j1 j2 n wh){x lv':Value}(o:Own 3 w1.heap.size wr x (rx S.Z8.ls j2))(hv:XT 26 w1.heap.size w' lv' (vs++[x]))(hg:wr.grownBy w' lv.ownBlock):
  Fs S w1 (w'.setCell ⟨R,38,none⟩ lv') R v r lv' rr (vs++[x]) j1 (j2+1) n wh:=by
 have hB:Xj w' R (zC S v r lv rr n wh) 41:=h.blk.grown hg (h.lv.Xa h.blk QZ);have hq:∀{x:Value} {xs:List Int},Own 3 w1.heap.size wr x xs->Own 3 w1.heap.size (w'.setCell ⟨R,38,none⟩ lv') x xs:=fun q=>(q.ltN h.lv QZ hg).xP hB
 exact {
  lo:=h.lo
  blk:=by rw[<-QQw (lv:=lv) h.lr];exact hB.set _ _
  t:=hq h.t,ro:=hq h.ro,lr:=h.lr,rg:=fun i hi=>hq (h.rg i hi)
  lv:=hv.xP hB,ll:=by rw[Zd,h.ll];rfl
  le:=fun i hi=>by
   by_cases e:i=j2
   ·subst e
    have:=h.ll;have e2:vx (vs++[x]) i=x:=by unfold vx;rw[Zf,XY QQ];simp[h.ll]
    rw[e2];exact hq o
   ·have e2:vx (vs++[x]) i=vx vs i:=by unfold vx;rw[Zf,XR (by have:=h.ll;omega),Zf]
    rw[e2];exact hq (h.le i QQ)
  YX:=(h.YX.grown hg h.YX.size fun k hk=>h.lv.row k hk).setCell h.lo _}
theorem Fs.QYn(h:Fs S w1 wr R v r lv rr vs j1 j2 n wh)(x:Int):Fs S w1 (wr.setCell ⟨R,39,none⟩ (.int .i64 x)) R v r lv rr vs j1 j2 n x:=
 {h with blk:=by rw[<-QQ8 (wh:=wh) h.lr];exact h.blk.set _ _,t:=h.t.xP h.blk,ro:=h.ro.xP h.blk,rg:=fun i hi=>(h.rg i hi).xP h.blk,lv:=h.lv.xP h.blk,le:=fun i hi=>(h.le i hi).xP h.blk,YX:=h.YX.setCell h.lo _}
end
structure Na (P:Nat->Prop) (w:World) (S:SS) (v r lv:Value) (rr:List Value):Prop where
 t:Yf P w v S.text
 ro:Yf P w r S.row
 lr:rr.length=27
 rg:∀i,i<27->Yf P w (vx rr i) (rx S.regs i)
 ls:∃vs,Dx P w lv vs/\Yd P w vs S.Z8.ls
theorem Na.keep{P Q:Nat->Prop}{w w':World}{S:SS}{v r lv:Value}{rr:List Value}(h:Na P w S v r lv rr)(hc:Xv P w w')(hi:∀k,P k->Q k):Na Q w' S v r lv rr:=by
 obtain⟨vs,h1,h2⟩:=h.ls;exact⟨(h.t.keep hc).imp hi,(h.ro.keep hc).imp hi,h.lr,fun i hj=>((h.rg i hj).keep hc).imp hi,⟨vs,(h1.keep hc).imp hi,h2.imp fun v xs g=>(g.keep hc).imp hi⟩⟩
theorem Fs.fin{S:SS}{w1 wr:World}{R:Nat}{v r lv:Value}{rr vs:List Value}{n:Nat}{wh:Int}(h:Fs S w1 wr R v r lv rr vs 27 S.Z8.ls.length n wh):Na (fun k=>w1.heap.size<=k) wr S v r lv rr:=
 ⟨h.t.jr,h.ro.jr,h.lr,fun i hi=>(h.rg i hi).jr,⟨vs,h.lv.vsp,h.ll,fun i hi=>(h.le i hi).jr⟩⟩
def FM(S:SS)(w:World)(e:Ending)(w':World):Prop:=∃v r lv rr,e=.returned (.agg (XP (zC S v r lv rr S.past.length S.Z8.Zi)))/\Na (fun k=>w.heap.size<=k) w' S v r lv rr/\Below w.heap.size w w'
theorem lkQ{S:SS}{w1 w8:World}{v r:Value}{n R:Nat}(hR:Xj w8 R zS 41)(hlo:w1.heap.size<=R)(o5:Own 3 w1.heap.size w8 v S.text)(o8:Own 3 w1.heap.size w8 r S.row)(UW:Below w1.heap.size w1 w8):
  Fs S w1 (w8.setCells R 0 (qL v S n r)) R v r (.slice none 0 0) Xu [] 0 0 n 0:=by
 have h2:=hR.setCells 0 (qL v S n r);rw[UH (by rw[Uy,RZ])]at h2;have hk:∀k,k≠R->(w8.setCells R 0 (qL v S n r)).heap[k]? =w8.heap[k]?:=fun k hk=>(YI _ _ 0).1 k hk
 have hne:∀{x:Value} {xs:List Int},Own 3 w1.heap.size w8 x xs->∀k,x.ownBlock=some k->k≠R:=fun q k e1 e2=>q.Xa hR QZ (by rw[e1,e2])
 exact⟨hlo,h2,o5.moved fun k e=>hk k (hne o5 k e),o8.moved fun k e=>hk k (hne o8 k e),rfl,fun i hi=>QQ,XT.nil _ _ _,rfl,fun i hi=>QQ,below_setCells hlo _ 0 UW⟩
theorem V5{o:Oper}{e:Operand->Value}(x0 x1 x2 x3 x5 x8 x9 Sa:Operand)(ho:o.op=.build 41 #[(0,x0),(1,x1),(2,x2),(3,x3),(5,x5),(8,x8),(9,x9),(10,Sa)])
  (a0:Option Addr) (n c:Nat) (S:SS) (l:Nat) (ra:Option Addr) (rn rc:Nat) (h0:e x0=.agg #[.slice a0 n c,.int .i64 S.pos]) (h1:e x1=.int .i64 S.mode) (h2:e x2=.agg #[.int .i64 S.part.a,.int .i64 S.part.b,.int .i64 S.part.c,.int .i64 S.part.d,.int .i64 S.part.e]) (h3:e x3=.agg #[.int .i64 S.fk,.int .i64 S.fa])
  (h5:e x5=.int .i64 (l:Int)) (h8:e x8=.bool S.over) (h9:e x9=.agg #[.slice ra rn rc,.int .i64 S.rat]) (h10:e Sa=.int .i64 S.off) (w:World):(execOp e o).run Tryz.prog w=.ok (.value (.agg (XP (qL (.slice a0 n c) S l (.slice ra rn rc))))) w:=by
 have hm:(#[(0,x0),(1,x1),(2,x2),(3,x3),(5,x5),(8,x8),(9,x9),(10,Sa)]:Array (Nat×Operand)).map (fun(i,x)=>(i,e x))=#[(0,.agg #[.slice a0 n c,.int .i64 S.pos]),(1,.int .i64 S.mode),(2,.agg #[.int .i64 S.part.a,.int .i64 S.part.b,.int .i64 S.part.c,.int .i64 S.part.d,.int .i64 S.part.e]),(3,.agg #[.int .i64 S.fk,.int .i64 S.fa]),(5,.int .i64 (l:Int)),(8,.bool S.over),(9,.agg #[.slice ra rn rc,.int .i64 S.rat]),(10,.int .i64 S.off)]:=by
  simp[h0,h1,h2,h3,h5,h8,h9,h10]
 unfold execOp;simp only[ho,hm,Sem.run_bind,NC a0 n c S l ra rn rc w,Yr];rfl
theorem Vd{o:Oper}{a:Act}{w:World}{K:Act->World->Prop}{Q:Exit->Act->World->Prop}(ho:o.op=.alloc 41)(h:K (a.put o.dst (.pointer (some ⟨w.heap.size,0,none⟩))) (w.alloc Xc)):o.wp Tryz.prog a w K Q:=by
 unfold Oper.wp execOp;simp only[ho,Sem.run_bind,A7,Yr];exact h
theorem Vb{o:Oper}{a:Act}{w:World}{K:Act->World->Prop}{Q:Exit->Act->World->Prop}(x y:Operand)(ho:o.op=.store 41 x y)
  (B:Nat) (hx:a.eval x=.pointer (some ⟨B,0,none⟩)) (us:List Value) (hy:a.eval y=.agg (XP us)) (ht:w.there B 0 44) (hl2:us.length=44) (h1:∀v∈us,v.oneCell'=true)
  (h:K (a.put o.dst undef) (w.setCells B 0 us)):o.wp Tryz.prog a w K Q:=
 wp_store_mid 41 x y ho B 0 (XP us) hx hy (by rw[Yl,hl2];exact ht) (by rw[Yl,hl2];exact WY) (Y3 h1) h
theorem vV(vs:List Value)(hx:vs.length=27)(k:Nat)(hk:k<27)(w:World):
  (Instr.index 36 (.agg (XP vs)) (.int .i64 (k:Int))).run Tryz.prog w=.ok (vx vs k) w:=by
 obtain⟨i0,hi0,hz0,hz1,hz2⟩:=Xf yJ;have hagg:∀w,(isAgg 26).run Tryz.prog w=.ok false w:=by
  intro w;unfold isAgg;rw[Sem.run_bind,Yn Tryz.underlying26 w];simp[go_sem]
 have hl:k<vs.length:=QQ;simp[Instr.index,XP,Yn Ju,asIntOf,sizeOf,typeInfo,hi0,hz1,go_sem,hagg,XJ hl,VY hl];omega
theorem aV{ops:Array Oper}{rest:List Oper}{op:Oper}{a:Act}{w:World}{Q:Exit->Act->World->Prop}(hgd:op.guard=none)(x:Operand)(ho:op.op=.load 36 x)
  (B o:Nat) (hx:a.eval x=.pointer (some ⟨B,o,none⟩)) (vs:List Value) (hB:w.rangeAt B o vs) (hl:vs.length=27)
  (h:wpList Tryz.prog ops Q rest (a.put op.dst (.agg (XP vs))) w):wpList Tryz.prog ops Q (op::rest) a w:=
 wpList_load_mid hgd 36 x ho B o hx vs _ hB Ju rfl (by rw[hl];exact Yo) h
theorem Gv:(Tryz.prog.underlying 41).map TypeDesc.isRow=some true:=QX
theorem zb:∃d,Tryz.prog.underlying 41=some d/\d.isRow=true:=by
 have h:=Gv;cases hu:Tryz.prog.underlying 41 with
 | none=>rw[hu]at h;cases h
 | some d=>rw[hu]at h;exact⟨d,rfl,QAF⟩
theorem RQ{ops:Array Oper}{rest:List Oper}{op:Oper}{a:Act}{w:World}{Q:Exit->Act->World->Prop}(hgd:op.guard=none)(x:Operand)(ho:op.op=.load 41 x)
  (B:Nat) (hx:a.eval x=.pointer (some ⟨B,0,none⟩)) (vs:List Value) (e:TypeId) (hB:Xj w B vs e) (hl:vs.length=44)
  (h:wpList Tryz.prog ops Q rest (a.put op.dst (.agg (XP vs))) w):wpList Tryz.prog ops Q (op::rest) a w:=by
 obtain⟨d,hu,hd⟩:=zb;exact wpList_load_mid hgd 41 x ho B 0 hx vs d (VN hB) hu hd (by rw[hl];exact WY) h
theorem EN{w:World}{B:Nat}{vs:List Value}{e:TypeId}(hB:Xj w B vs e)(hl:vs.length=44):(loadVar 41 ⟨B,0,none⟩).run Tryz.prog w=.ok (.agg (XP vs)) w:=by
 obtain⟨d,hu,hd⟩:=zb;exact run_loadVar_mid w B 0 41 vs d (VN hB) hu hd (by rw[hl];exact WY)
theorem mE{S:SS}{v r lv:Value}{rr:List Value}{n:Nat}{wh:Int}(h1:v.oneCell'=true)(h2:r.oneCell'=true)(h3:lv.oneCell'=true)(h4:∀x∈rr,x.oneCell'=true):∀x∈zC S v r lv rr n wh,x.oneCell'=true:=fun x hx=>by
 unfold zC at hx;simp only[XL]at hx;rcases hx with(hx|hx)|hx
 ·simp only[EO,Zb,ZN,or_false]at hx
  rcases hx with h|h|h|h|h|h|h|h|h|h<;>(rw[h];first|rfl|assumption)
 ·exact h4 x hx
 ·simp only[mF,Zb,ZN,or_false]at hx
  rcases hx with h|h|h|h|h|h|h<;>(rw[h];first|rfl|assumption)
theorem Na.one{P:Nat->Prop}{w:World}{S:SS}{v r lv:Value}{rr:List Value}{n:Nat}{wh:Int}(h:Na P w S v r lv rr):∀x∈zC S v r lv rr n wh,x.oneCell'=true:=by
 obtain⟨vs,⟨a,k,c,e,-⟩,-⟩:=h.ls;refine mE h.t.one h.ro.one Qv7 fun x hx=>?_
 obtain⟨i,hi,e⟩:=Xw.1 hx;rw[<-e,<-VY hi];exact(h.rg i (by rw[<-h.lr];exact hi)).one
theorem dJ{h:Hi}(he:xC h=0):h.ls.length<=50/\∀i,i<h.ls.length->(rx h.ls i).length<=200:=by
 unfold xC at he;by_cases h1:h.most<1\/50<h.most\/h.most<h.ls.length\/h.Zi<0\/(h.ls.length:Int)<h.Zi
 ·rw[if_pos h1]at he;cases he
 ·rw[if_neg h1]at he
  refine⟨QQ,fun i hi=>?_⟩;by_cases h2:(h.ls.any Kg || Kg h.XQ || Kg h.pat)=true
  ·rw[if_pos h2]at he;cases he
  ·have h3:¬Kg (rx h.ls i)=true:=fun e=>h2 (by
    have:h.ls.any Kg=true:=List.any_eq_true.2 ⟨_,Mj hi,e⟩;rw[this];rfl)
   simpa[Kg]using h3
abbrev LkS(B:Nat)(S:SS)(pv rv:Value)(w':World):Prop:=
 w'.cell? ⟨B,2,none⟩=some (.int .i64 S.mode)/\w'.cell? ⟨B,30,none⟩=some (.int .i64 S.fk)/\w'.cell? ⟨B,31,none⟩=some (.int .i64 S.fa)/\w'.cell? ⟨B,32,none⟩=some (.int .i64 S.part.a)/\w'.cell? ⟨B,33,none⟩=some (.int .i64 S.part.b)/\w'.cell? ⟨B,34,none⟩=some (.int .i64 S.part.c)/\w'.cell? ⟨B,35,none⟩=some (.int .i64 S.part.d)/\w'.cell? ⟨B,36,none⟩=some (.int .i64 S.part.e)/\w'.cell? ⟨B,43,none⟩=some pv/\w'.cell? ⟨B,51,none⟩=some (.int .i64 S.off)/\w'.cell? ⟨B,53,none⟩=some rv/\w'.cell? ⟨B,54,none⟩=some (.int .i64 S.rat)/\w'.cell? ⟨B,55,none⟩=some (.bool S.over)
theorem qM{B:Nat}{S:SS}{pv rv:Value}{w1 wb:World}(hB:B<w1.heap.size)(h:LkS B S pv rv w1.drew)(hb:Below w1.heap.size w1 wb):LkS B S pv rv wb:=by
 obtain⟨h1,h2,h3,h4,h5,h6,h7,h8,h9,h10,h11,h12,TQ⟩:=h;exact⟨QBp,QBo,by rw[hb.cell hB];exact h3,by rw[hb.cell hB];exact h4,by rw[hb.cell hB];exact h5,by rw[hb.cell hB];exact h6,by rw[hb.cell hB];exact h7,by rw[hb.cell hB];exact h8,by rw[hb.cell hB];exact h9,by rw[hb.cell hB];exact h10,by rw[hb.cell hB];exact h11,by rw[hb.cell hB];exact h12,by rw[hb.cell hB];exact TQ⟩
theorem iB(F G:Nat->Prop)(B K:Nat)(S:SS)(w:World)(h:Yv F G w B S)(hI:XW K S)(hw:S.row.length<=4096):
  Calls Tryz.prog 14 #[.pointer (some ⟨B,0,none⟩)] w (FM S w):=by
 obtain⟨f,hf⟩:=h;have hb1:=ZT w Xc;have hZ1:=Jp (w:=w) rfl;have hA1:=(At.begin hf).JA hb1;have hBl:=hf.uq;have HI:=Zy hI;clear hI hf;go_enter Tryz.func14,Tryz.ntmps14
 go_upto_region 1 with fail
 have hz1:(w.alloc Xc).heap.size=w.heap.size+1:=Zv _ _;obtain⟨w1,hW1⟩:∃w1,(w.alloc (.cells #[.slice none 0 0,.int .i64 0,.int .i64 0,.int .i64 0,.int .i64 0,.int .i64 0,.int .i64 0,.int .i64 0,.int .i64 0,.int .i64 0,.slice none 0 0,.slice none 0 0,.slice none 0 0,.slice none 0 0,.slice none 0 0,.slice none 0 0,.slice none 0 0,.slice none 0 0,.slice none 0 0,.slice none 0 0,.slice none 0 0,.slice none 0 0,.slice none 0 0,.slice none 0 0,.slice none 0 0,.slice none 0 0,.slice none 0 0,.slice none 0 0,.slice none 0 0,.slice none 0 0,.slice none 0 0,.slice none 0 0,.slice none 0 0,.slice none 0 0,.slice none 0 0,.slice none 0 0,.slice none 0 0,.int .i64 0,.slice none 0 0,.int .i64 0,.bool false,.slice none 0 0,.int .i64 0,.int .i64 0] 41))=w1:=⟨_,rfl⟩;have hW2:w.alloc Xc=w1:=hW1;rw[hW1];rw[hW2]at hb1 hZ1 hA1 hz1;have HW1:=Zy hW1;have HZ1:=Zy hz1;clear hW1 hW2 hz1;have hdr:w1.drew.heap.size=w1.heap.size:=rfl;have hB1:B<w1.heap.size:=hA1.hf.uq;obtain⟨us,hps,hsn⟩:=hA1.hf.d.past.get;have AY:=hps;obtain⟨a43,n43,k43,e43,-⟩:=hps;rw[e43]at AY;have hn43:n43=S.past.length:=AY.get.1.symm.trans hsn.1;obtain⟨a53,n53,k53,e53⟩:∃a n k,f 53=.slice a n k:=by obtain⟨a,n,k,e,-⟩:=hA1.hf.d.row.sl;exact⟨a,n,k,e⟩
 have hrow:=hA1.hf.d.row;rw[e53]at hrow;have c2:=hA1.hf.cell 2;have UB:=hA1.hf.cell 30;have c31:=hA1.hf.cell 31;have c32:=hA1.hf.cell 32;have Kr:=hA1.hf.cell 33;have c34:=hA1.hf.cell 34;have xE:=hA1.hf.cell 35;have c36:=hA1.hf.cell 36;have eO:=hA1.hf.cell 43;have c51:=hA1.hf.cell 51;have c53:=hA1.hf.cell 53;have c54:=hA1.hf.cell 54;have tT:=hA1.hf.cell 55;rw[hA1.hf.d.mode]at c2;rw[hA1.hf.d.fk]at UB;rw[hA1.hf.d.fa]at c31;rw[hA1.hf.d.p0]at c32;rw[hA1.hf.d.p1]at Kr;rw[hA1.hf.d.p2]at c34;rw[hA1.hf.d.p3]at xE;rw[hA1.hf.d.p4]at c36;rw[e43]at eO;rw[hA1.hf.d.off]at c51;rw[e53]at c53;rw[hA1.hf.d.rat]at c54;rw[hA1.hf.d.over]at tT;have HA1:=Zy hA1;have HRW:=Zy hrow;have kT:=Zy (fun(w':World) (hb:Below w1.heap.size w1 w')=>DL _ _ B S w' ⟨f,(HA1.out.JA hb).hf⟩ QBt);have HCL:=Zy (fun(w':World) (hb:Below w1.heap.size w1 w')=>Zw a53 n53 k53 S.row w' (hrow.get.2.2.2.1.below hb) hrow.get.1 (by have:=hrow.get.1;omega) hrow.get.2.2.2.2);have HN:=Zy hn43;clear hA1 hrow hsn AY e43 e53 hn43;have hal:=A7;have hS1:LkS B S (.slice a43 n43 k43) (.slice a53 n53 k53) w1.drew:=⟨c2,UB,c31,c32,Kr,c34,xE,c36,eO,c51,c53,c54,tT⟩
 go_cut [3] (fun v3 wx=>∃R v r,v3=.pointer (some ⟨R,0,none⟩)/\Fs S w1 wx R v r (.slice none 0 0) Xu [] 0 0 n43 0)
 case first=>
  refine wp_region_held_drew (S:=(fun w'=>w'.cell? ⟨B,2,none⟩=some (.int .i64 S.mode)/\w'.cell? ⟨B,30,none⟩=some (.int .i64 S.fk)/\w'.cell? ⟨B,31,none⟩=some (.int .i64 S.fa)/\w'.cell? ⟨B,32,none⟩=some (.int .i64 S.part.a)/\w'.cell? ⟨B,33,none⟩=some (.int .i64 S.part.b)/\w'.cell? ⟨B,34,none⟩=some (.int .i64 S.part.c)/\w'.cell? ⟨B,35,none⟩=some (.int .i64 S.part.d)/\w'.cell? ⟨B,36,none⟩=some (.int .i64 S.part.e)/\w'.cell? ⟨B,43,none⟩=some (.slice a43 n43 k43)/\w'.cell? ⟨B,51,none⟩=some (.int .i64 S.off)/\w'.cell? ⟨B,53,none⟩=some (.slice a53 n53 k53)/\w'.cell? ⟨B,54,none⟩=some (.int .i64 S.rat)/\w'.cell? ⟨B,55,none⟩=some (.bool S.over))) QX hS1 ?_;intro hSd;refine ZP 0 ⟨some 8,.move (.tmp 0),_,_,_,_⟩ ((.pointer (some ⟨B,0,none⟩))) ?_;simp only[Act.put,Zj,Zk,Zu];refine ZP 2 ⟨some 10,.move (.tmp 0),_,_,_,_⟩ ((.pointer (some ⟨B,0,none⟩))) ?_;simp only[Act.put,Zj,Zk,Zu];refine ZP 3 ⟨some 11,.nilCheck (.tmp 10),_,_,_,_⟩ ((.pointer (some ⟨B,0,none⟩))) ?_;simp only[Act.put,Zj,Zk,Zu];refine ZP 4 ⟨some 12,.fieldAddr _ (.tmp 11) 1,_,_,_,_⟩ ((.pointer (some ⟨B,2,none⟩))) ?_;simp only[Act.put,Zj,Zk,Zu];refine ZP 5 ⟨some 13,.load _ (.tmp 12),_,_,_,_⟩ ((.int .i64 S.mode)) ?_;simp only[Act.put,Zj,Zk,Zu];refine ZP 6 ⟨some 14,.move (.tmp 0),_,_,_,_⟩ ((.pointer (some ⟨B,0,none⟩))) ?_;simp only[Act.put,Zj,Zk,Zu];refine ZP 7 ⟨some 15,.nilCheck (.tmp 14),_,_,_,_⟩ ((.pointer (some ⟨B,0,none⟩))) ?_;simp only[Act.put,Zj,Zk,Zu];refine ZP 8 ⟨some 16,.fieldAddr _ (.tmp 15) 4,_,_,_,_⟩ ((.pointer (some ⟨B,32,none⟩))) ?_;simp only[Act.put,Zj,Zk,Zu];refine ZP 9 ⟨some 17,.load _ (.tmp 16),_,_,_,_⟩ ((.agg #[.int .i64 S.part.a,.int .i64 S.part.b,.int .i64 S.part.c,.int .i64 S.part.d,.int .i64 S.part.e])) ?_;simp only[Act.put,Zj,Zk,Zu];refine ZP 10 ⟨some 18,.move (.tmp 0),_,_,_,_⟩ ((.pointer (some ⟨B,0,none⟩))) ?_;simp only[Act.put,Zj,Zk,Zu];refine ZP 11 ⟨some 19,.nilCheck (.tmp 18),_,_,_,_⟩ ((.pointer (some ⟨B,0,none⟩))) ?_;simp only[Act.put,Zj,Zk,Zu];refine ZP 12 ⟨some 20,.fieldAddr _ (.tmp 19) 3,_,_,_,_⟩ ((.pointer (some ⟨B,30,none⟩))) ?_;simp only[Act.put,Zj,Zk,Zu];refine ZP 13 ⟨some 21,.load _ (.tmp 20),_,_,_,_⟩ ((.agg #[.int .i64 S.fk,.int .i64 S.fa])) ?_;simp only[Act.put,Zj,Zk,Zu];refine ZP 14 ⟨some 22,.move (.tmp 0),_,_,_,_⟩ ((.pointer (some ⟨B,0,none⟩))) ?_;simp only[Act.put,Zj,Zk,Zu];refine ZP 15 ⟨some 23,.nilCheck (.tmp 22),_,_,_,_⟩ ((.pointer (some ⟨B,0,none⟩))) ?_;simp only[Act.put,Zj,Zk,Zu];refine ZP 16 ⟨some 24,.fieldAddr _ (.tmp 23) 6,_,_,_,_⟩ ((.pointer (some ⟨B,43,none⟩))) ?_;simp only[Act.put,Zj,Zk,Zu];refine ZP 17 ⟨some 25,.fieldAddr _ (.tmp 24) 0,_,_,_,_⟩ ((.pointer (some ⟨B,43,none⟩))) ?_;simp only[Act.put,Zj,Zk,Zu];refine ZP 18 ⟨some 26,.load _ (.tmp 25),_,_,_,_⟩ ((.slice a43 n43 k43)) ?_;simp only[Act.put,Zj,Zk,Zu];refine ZP 19 ⟨some 27,_,_,_,_,_⟩ ((.int .i64 (n43:Int))) ?_;simp only[Act.put,Zj,Zk,Zu];refine ZP 20 ⟨some 28,.move (.tmp 0),_,_,_,_⟩ ((.pointer (some ⟨B,0,none⟩))) ?_;simp only[Act.put,Zj,Zk,Zu];refine ZP 21 ⟨some 29,.nilCheck (.tmp 28),_,_,_,_⟩ ((.pointer (some ⟨B,0,none⟩))) ?_;simp only[Act.put,Zj,Zk,Zu];refine ZP 22 ⟨some 30,.fieldAddr _ (.tmp 29) 16,_,_,_,_⟩ ((.pointer (some ⟨B,55,none⟩))) ?_;simp only[Act.put,Zj,Zk,Zu];refine ZP 23 ⟨some 31,.load _ (.tmp 30),_,_,_,_⟩ ((.bool S.over)) ?_;simp only[Act.put,Zj,Zk,Zu];refine ZP 24 ⟨some 32,.move (.tmp 0),_,_,_,_⟩ ((.pointer (some ⟨B,0,none⟩))) ?_;simp only[Act.put,Zj,Zk,Zu];refine ZP 25 ⟨some 33,.nilCheck (.tmp 32),_,_,_,_⟩ ((.pointer (some ⟨B,0,none⟩))) ?_;simp only[Act.put,Zj,Zk,Zu];refine ZP 26 ⟨some 34,.fieldAddr _ (.tmp 33) 15,_,_,_,_⟩ ((.pointer (some ⟨B,53,none⟩))) ?_;simp only[Act.put,Zj,Zk,Zu];refine ZP 27 ⟨some 35,.fieldAddr _ (.tmp 34) 0,_,_,_,_⟩ ((.pointer (some ⟨B,53,none⟩))) ?_;simp only[Act.put,Zj,Zk,Zu];refine ZP 28 ⟨some 36,.load _ (.tmp 35),_,_,_,_⟩ ((.slice a53 n53 k53)) ?_;simp only[Act.put,Zj,Zk,Zu];refine ZP 30 ⟨some 38,.move (.tmp 0),_,_,_,_⟩ ((.pointer (some ⟨B,0,none⟩))) ?_;simp only[Act.put,Zj,Zk,Zu];refine ZP 31 ⟨some 39,.nilCheck (.tmp 38),_,_,_,_⟩ ((.pointer (some ⟨B,0,none⟩))) ?_
  simp only[Act.put,Zj,Zk,Zu];refine ZP 32 ⟨some 40,.fieldAddr _ (.tmp 39) 15,_,_,_,_⟩ ((.pointer (some ⟨B,53,none⟩))) ?_;simp only[Act.put,Zj,Zk,Zu];refine ZP 33 ⟨some 41,.fieldAddr _ (.tmp 40) 1,_,_,_,_⟩ ((.pointer (some ⟨B,54,none⟩))) ?_;simp only[Act.put,Zj,Zk,Zu];refine ZP 34 ⟨some 42,.load _ (.tmp 41),_,_,_,_⟩ ((.int .i64 S.rat)) ?_;simp only[Act.put,Zj,Zk,Zu];refine ZP 36 ⟨some 44,.move (.tmp 0),_,_,_,_⟩ ((.pointer (some ⟨B,0,none⟩))) ?_;simp only[Act.put,Zj,Zk,Zu];refine ZP 37 ⟨some 45,.nilCheck (.tmp 44),_,_,_,_⟩ ((.pointer (some ⟨B,0,none⟩))) ?_;simp only[Act.put,Zj,Zk,Zu];refine ZP 38 ⟨some 46,.fieldAddr _ (.tmp 45) 13,_,_,_,_⟩ ((.pointer (some ⟨B,51,none⟩))) ?_;simp only[Act.put,Zj,Zk,Zu];refine ZP 39 ⟨some 47,.load _ (.tmp 46),_,_,_,_⟩ ((.int .i64 S.off)) ?_;simp only[Act.put,Zj,Zk,Zu];have UM:Below w1.heap.size w1 w1.drew:=(ZH _ _).drew;refine Zl (rs:=[1,41]) QX QJ ?_;refine ZO (o:=⟨some 9,_,_,_,_,_⟩) rfl (fun K hK=>?_) ?_
  ·
   go_simp;refine(kT.out _ UM).mono ?_;rintro e w5 ⟨v5,rfl,o5,hb5⟩;obtain⟨a5,n5,k5,rfl⟩:=o5.form;have LJ:=o5.mono UM.size;replace UM:=UM.trans (hb5.mono UM.size);dsimp only;refine hK.out _ _ (qM hB1 hS1 UM) (fun hHeld=>?_);clear hK K;refine Zl (rs:=[29,41]) QX QJ ?_;refine ZO (o:=⟨some 37,_,_,_,_,_⟩) rfl (fun K hK=>?_) ?_
   ·
    go_simp;refine(HCL.out _ UM).mono ?_;rintro e w8 ⟨v8,rfl,o8,XF⟩;obtain⟨a8,n8,k8,rfl⟩:=o8.form;have sF:=o8.mono UM.size;replace LJ:=LJ.kept XF;replace UM:=UM.trans (XF.mono UM.size);dsimp only;refine hK.out _ _ (qM hB1 hS1 UM) (fun hHeld=>?_);clear hK K;refine ZP 35 ⟨some 43,_,_,_,_,_⟩ ((.agg #[.slice a8 n8 k8,.int .i64 S.rat])) ?_;simp only[Act.put,Zj,Zk,Zu];obtain⟨rs,hrs⟩:∃rs,rs=qL (.slice a5 n5 k5) S n43 (.slice a8 n8 k8):=⟨_,rfl⟩;have Cq:=Zy hrs;clear hrs;refine wpAnyH_take (i:=40) (oi:=⟨some 48,_,_,_,_,_⟩) (v:=(.agg (XP rs))) rfl QX QX QX (fun _ _ _ h=>h) (Or.inl ⟨QAQ,fun w hSw=>Q8⟩) QH ?_;simp only[Act.put,Zj,Zk,Zu];refine Zl (rs:=[41]) QX QJ ?_;refine ZO (o:=⟨some 3,_,_,_,_,_⟩) rfl (fun K hK=>?_) Zg;rw[if_pos QAQ];refine Vd rfl ?_;have FJ:=Jp (w:=w8) rfl;have AL:=UM.size;replace LJ:=LJ.kept (ZT w8 Xc);replace sF:=sF.kept (ZT w8 Xc);replace UM:=UM.trans ((ZT w8 Xc).mono UM.size);obtain⟨wa,kG⟩:∃wa,wa=w8.alloc Xc:=⟨_,rfl⟩;obtain⟨R,hRR⟩:∃R,R=w8.heap.size:=⟨_,rfl⟩;rw[<-kG,<-hRR]at FJ;rw[<-hRR]at AL;rw[<-kG]at UM;rw[<-kG]at LJ;rw[<-kG]at sF;rw[<-kG,<-hRR];clear kG hRR;simp only[Act.put,Zj,Zk,Zu];refine hK.out _ _ (qM hB1 hS1 UM) (fun hHeld=>?_);clear hK K;refine Zl (rs:=[42]) QX QJ ?_;refine ZO (o:=⟨none,_,_,_,_,_⟩) rfl (fun K hK=>?_) Zg;rw[if_pos QAQ];refine Vb _ _ rfl R rfl rs rfl FJ.Dn (by rw[Cq.out];rfl) QAr ?_;simp only[Act.put,Zj,Zk,Zu];refine hK.out _ _ (qM hB1 hS1 (below_setCells AL _ 0 UM)) (fun hHeld=>?_);clear hK K;refine Ya QX ?_ _;go_wp2;go_meet;exact⟨_,_,_,rfl,QAw⟩
   refine ZO (o:=⟨some 3,_,_,_,_,_⟩) rfl (fun K hK=>?_) Zg;rw[if_pos QAQ];refine Vd rfl ?_;have FJ:=Jp (w:=w5) rfl;have AL:=UM.size;replace LJ:=LJ.kept (ZT w5 Xc);replace UM:=UM.trans ((ZT w5 Xc).mono UM.size);obtain⟨wa,kG⟩:∃wa,wa=w5.alloc Xc:=⟨_,rfl⟩;obtain⟨R,hRR⟩:∃R,R=w5.heap.size:=⟨_,rfl⟩;rw[<-kG,<-hRR]at FJ;rw[<-hRR]at AL;rw[<-kG]at UM;rw[<-kG]at LJ;rw[<-kG,<-hRR];clear kG hRR;simp only[Act.put,Zj,Zk,Zu];exact QDQ
  refine ZO (o:=⟨some 3,_,_,_,_,_⟩) rfl (fun K hK=>?_) Zg;rw[if_pos QAQ];refine Vd rfl ?_;have FJ:=Jp (w:=w1.drew) rfl;have AL:=UM.size;replace UM:=UM.trans ((ZT w1.drew Xc).mono UM.size);obtain⟨wa,kG⟩:∃wa,wa=w1.drew.alloc Xc:=⟨_,rfl⟩;obtain⟨R,hRR⟩:∃R,R=w1.drew.heap.size:=⟨_,rfl⟩;rw[<-kG,<-hRR]at FJ;rw[<-hRR]at AL;rw[<-kG]at UM;rw[<-kG,<-hRR];clear kG hRR;simp only[Act.put,Zj,Zk,Zu];refine hK.out _ _ (qM hB1 hS1 UM) (fun hHeld=>?_);clear hK K;refine Zl (rs:=[1]) QX QJ ?_;refine ZO (o:=⟨some 9,_,_,_,_,_⟩) rfl (fun K hK=>?_) Zg;go_simp;refine(kT.out _ UM).mono ?_;rintro e w5 ⟨v5,rfl,o5,hb5⟩;obtain⟨a5,n5,k5,rfl⟩:=o5.form;have LJ:=o5.mono UM.size;replace FJ:=FJ.YP hb5;replace UM:=UM.trans (hb5.mono UM.size);dsimp only;exact QDQ
 obtain⟨R,v,r,rfl,hM0⟩:=hcut;clear c2 UB c31 c32 Kr c34 xE c36 eO c51 c53 c54 tT hS1 hal;have QXx:=HA1.out.hf.cell 37;have QXq:=HA1.out.hf.cell 39;rw[HA1.out.hf.d.C8]at QXq;obtain⟨hv,QWq,QZF⟩:=HA1.out.hf.d.Z8.ls;obtain⟨a37,n37,k37,e37,QZE,-,-,sO,-,-⟩:=QWq;rw[e37]at QXx;have hll:S.Z8.ls.length=n37:=by rw[<-QZF.1];exact QZE
 obtain⟨QV8,tQ⟩:=dJ HI.out.hi;have HVV:=Zy sO;have QUK:=Zy QZE;have FP:=Zy QZF.lists;have Ur:=Zy hll;have HQ:=Zy tQ;have QZD:n37<=50:=QQ;clear sO QZE QZF hll e37 QV8 tQ;obtain⟨gv,hgv⟩:∃gv,gv=Sg f:=⟨_,rfl⟩;have hgl:gv.length=27:=by rw[hgv];rfl
 have HGR:=Zy (fun(w':World) (hb:Below w1.heap.size w1 w')=>(show∀i,i<27->Sl w' (vx gv i) (rx S.regs i)from fun i hi=>by rw[hgv];exact((HA1.out.JA hb).hf.d.regs.2 i (by rw[HI.out.rl];exact hi)).sl));have hrg:=(HA1.out.JA hM0.YX).hf.range;rw[<-hgv]at hrg;have HGL:=Zy hgl;have HM0:=Zy hM0;have Qqw:=Zy QXq;clear hM0 hgv hgl QXq;go_wp2_with ((with_reducible show wpList _ _ _ (⟨_,Op.load 36 _,_,_,_,_⟩::_) _ _);refine aV rfl _ rfl B 3 rfl gv hrg HGL.out ?_)
 clear hrg
 go_loopw [53] (fun i wr=>∃(j:Nat) (rr:List Value),i=.int .i64 (j:Int)/\j<=27/\Fs S w1 wr R v r (.slice none 0 0) rr [] j 0 n43 0) (fun i _=>27-(intOf i).toNat)
 case atStart=>exact⟨0,Xu,rfl,Z0 _,HM0.out⟩
 case round=>
  obtain⟨j,rr,rfl,hj,hM⟩:=hrel;by_cases hlt:j<27
  ·as_aux_lemma=>
   obtain⟨aj,nj,cj,mr,hl,-,-,hi,h0⟩:=(HGR.out _ hM.YX) j hlt;have hix:=fun w=>vV gv HGL.out j hlt w
   simp only[mr]at hix;have hsm:(rx S.regs j).length<=200:=HI.out.rs j hlt;have CLJ:=Zy (Zw aj nj cj (rx S.regs j) wr hi hl QQ h0);have H2:=Zy hM;have i0:(0:Int)<=(j:Int):=QQ;have i1:(j:Int)<27:=QQ;clear hi hl h0 hsm hM mr;go_wp2_with (go_at_call 43;go_loud (refine(CLJ.out).mono ?_;rintro e qB ⟨v10,rfl,LK,JN⟩;obtain⟨a10,n10,c10,rfl⟩:=LK.form;have dN:=H2.out.below JN;have c37:=dN.blk.cell (i:=10+j) (by rw[KM dN.lr];omega);have f37:=dN.blk.free (10+j);have H10:=Zy (dN.reg hlt (LK.mono H2.out.YX.size));clear dN))
   exact⟨⟨j+1,_,Qk,QQ,H10.out⟩,Qp⟩
  ·obtain rfl:j=27:=by omega
   have y37:=(hM.YX.cell hB1).trans QXx;have HM:=Zy hM;clear hM QXx hlt HGR;go_wp2
   go_loopw [69] (fun i wr=>∃(k:Nat) (ra:Option Addr) (rn rc:Nat) (us:List Value),i=.int .i64 (k:Int)/\k<=n37/\Fs S w1 wr R v r (.slice ra rn rc) rr us 27 k n43 0) (fun i _=>n37-(intOf i).toNat)
   case atStart=>exact⟨0,none,0,0,[],rfl,Z0 _,HM.out⟩
   case round=>
    clear y37;obtain⟨k,ra,rn,rc,us,rfl,hk,hM⟩:=hrel;by_cases hlt:k<n37
    ·as_aux_lemma=>
     obtain⟨b1,o1,rfl,hc⟩:=(HVV.out.below hM.YX).at (k:=k) (by rw[QUK.out];exact hlt);have e1:=hc k (by rw[QUK.out];exact hlt);obtain⟨xa,xn,xc,x1,x2,x3,x4,x5,x6⟩:=(FP.out.below hM.YX).sl k QAj;rw[x1]at e1;have JK:xn<=17592186044416:=by have:=HQ.out k QAj;omega
     have pM:=Zy x2;have HX6:=Zy x6;have HU:=Zy (show us.length+1<=4398046511104 by rw[hM.ll];omega);have c38:=hM.blk.cell (i:=38) (by rw[KM hM.lr];omega);rw[uz hM.lr]at c38;have H2:=Zy (hM.below (ZH _ _).drew);have hlr:=hM.lr;have HLR:=Zy hlr;have i0:(0:Int)<=(k:Int):=QQ;have i1:(k:Int)<(n37:Int):=QQ;have x5':=x5.drew;clear hc x1 x2 x6 x5 hM hlr;have Sv:=Zy (show∀(u:World) (x:Option Addr) (n c:Nat),J7 (u.alloc (.cells #[.slice x n c] 26)) (some ⟨u.heap.size,0,none⟩) [.slice x n c]from fun u x n c=>JE u [.slice x n c] _);have BU:=Zy (show∀(x:Option Addr) (n c:Nat),Ip [.slice x n c]from fun x n c i hi=>by
      obtain rfl:i=0:=Qa;exact⟨x,n,c,rfl⟩)
     go_wp2
     go_region_law (first|(go_simp;go_at_call 43;refine(Zw xa xn xc _ _ x5' pM.out JK HX6.out).mono ?_;rintro e w2 ⟨v2,rfl,vN,hb2⟩;obtain⟨a2,n2,c2,rfl⟩:=vN.form;have hM2:=H2.out.below hb2;have d38:=hM2.blk.cell (i:=38) QBr;rw[uz HLR.out]at d38;have hM3:=hM2.below (ZT w2 (.cells #[.slice a2 n2 c2] 26));have QqK:=hM3.blk.cell (i:=38) QBr;rw[uz HLR.out]at QqK;have H3:=Zy hM3;have O3:=Zy ((vN.mono H2.out.YX.size).alloc (.cells #[.slice a2 n2 c2] 26));clear hM2 hM3)|(refine zK QAQ _ _ rfl w1.heap.size (.slice ra rn rc) us [.slice a2 n2 c2] _ 1 1 rfl rfl H3.out.lv (Sv.out _ _ _ _) (BU.out _ _ _) rfl HU.out H3.out.YX.size ?_;intro v9 w9 o9 hg9;obtain⟨a9,n9,c9,rfl⟩:=o9.form;have U0:=H3.out.blk.grown hg9 (H3.out.lv.Xa H3.out.blk QZ);have e38:=U0.cell (i:=38) QBr;have g38:=U0.free 38;have H9:=Zy (H3.out.line O3.out o9 hg9);clear U0))
     all_goals
      go_wp2;go_roundw
      case rel=>
       refine⟨_,_,_,_,_,_,_,_,_,_,_,_,_,⟨k+1,a9,n9,c9,_,?_,QQ,H9.out⟩,rfl⟩
       go_num
      case measure=>simp[intOf];omega
    ·as_aux_lemma=>
     obtain rfl:k=n37:=QQ;have y39:=(hM.YX.cell hB1).trans Qqw.out;have c39:=hM.blk.cell (i:=39) (by rw[KM hM.lr];omega);have f39:=hM.blk.free 39;have hM2:=hM.QYn S.Z8.Zi;have hZ:=(hZ1.below hM.YX hZ1.lt).other (a:=⟨R,39,none⟩) (by have:=hM.lo;have:=hZ1.lt;show w.heap.size≠R;omega) (.int .i64 S.Z8.Zi);have hbw:=hM.YX.setCell (p:=⟨R,39,none⟩) hM.lo (.int .i64 S.Z8.Zi);have hlr:=hM.lr;rw[<-Ur.out]at hM2;have hF:=hM2.fin;have hbL:=hM2.blk;have hone:=hF.one (n:=n43) (wh:=S.Z8.Zi);have hlen:=KM (S:=S) (v:=v) (r:=r) (lv:=.slice ra rn rc) (n:=n43) (wh:=S.Z8.Zi) hlr;obtain⟨rs,hrs⟩:∃rs,rs=zC S v r (.slice ra rn rc) rr n43 S.Z8.Zi:=⟨_,rfl⟩;rw[<-hrs]at hbL hone hlen;have qO:=hZ.setCells 0 rs;rw[UH (by rw[Uy,hlen])]at qO;have Jv:Below w.heap.size w ((wr.setCell ⟨R,39,none⟩ (.int .i64 S.Z8.Zi)).setCells w.heap.size 0 rs):=below_setCells (ZB _) rs 0 (hb1.trans (hbw.mono hb1.size));have hF9:=(hF.keep (w':=(wr.setCell ⟨R,39,none⟩ (.int .i64 S.Z8.Zi)).setCells w.heap.size 0 rs) (Same.JB (F:=fun k=>w1.heap.size<=k) fun q hq=>(YI rs _ 0).1 q (by have:=hZ1.lt;omega)) (fun q hq=>hq)).keep (Xv.refl _ _) (Q:=fun q=>w.heap.size<=q) (fun q hq=>by have:=hZ1.lt;omega);have Cq:=Zy hrs;have HF9:=Zy hF9;have HB9:=Zy Jv;have HZ9:=Zy qO;clear hM hM2 hF hrs hF9 Jv qO hbw hb1 hZ1;go_wp2_with (first|((with_reducible show wpList _ _ _ (⟨_,Op.load 41 _,_,_,_,_⟩::_) _ _);refine RQ rfl _ rfl R rfl rs _ hbL hlen ?_)|((with_reducible show wpList _ _ _ (⟨none,Op.store 41 _ _,_,_,_,_⟩::_) _ _);refine WS hZ rfl _ _ rfl rfl rs rfl hlen hone ?_;generalize(wr.setCell ⟨R,39,none⟩ (.int .i64 S.Z8.Zi)).setCells w.heap.size 0 rs=w9 at *))
     exact ZC (Ca Tryz.results14 rfl (EN HZ9.out hlen)) rfl ⟨v,r,_,rr,by rw[Cq.out,HN.out],HF9.out,HB9.out⟩
def qm(w0 w:World)(B:Nat)(S:SS)(G:Nat->Prop):Prop:=∃F f,HF F G w B f S/\(∀k,G k->w0.heap.size<=k)/\Below w0.heap.size w0 w
theorem qm.below{w0 w w':World}{B:Nat}{S:SS}{G:Nat->Prop}(h:qm w0 w B S G)(hb:Below w.heap.size w w'):qm w0 w' B S G:=by
 obtain⟨F,f,h1,h2,h3⟩:=h;exact⟨F,f,h1.other (fun k hk=>hb.block k (h1.lt k hk)) hb.size,h2,h3.trans (hb.mono h3.size)⟩
theorem qm.YX{w0 w:World}{B:Nat}{S:SS}{G:Nat->Prop}(h:qm w0 w B S G):Below w0.heap.size w0 w:=by
 obtain⟨F,f,h1,h2,h3⟩:=h;exact h3
theorem qm.lt{w0 w:World}{B:Nat}{S:SS}{G:Nat->Prop}(h:qm w0 w B S G):∀k,G k->k<w.heap.size:=by
 obtain⟨F,f,h1,h2,h3⟩:=h;exact h1.lt
def LvF(W w0:World)(B:Nat)(S:SS)(G:Nat->Prop)(b:ByteArray)(w:World)(e:Ending)(w':World):Prop:=
 qm w0 w' B (S.feed W b).1 (Gx G w w')/\Step G w w'/\
  ((
   (S.feed W b).2=0/\∃a n c us a2 n2 c2,e=.returned (.tuple #[.slice a n c,.slice a2 n2 c2,.int .i64 0])/\us.length=n/\X0 w' a us/\ji (Gx G w w') w' us (S.feed W b).1.told/\(S.feed W b).1.YC.length=n2/\Ints w' a2 (S.feed W b).1.YC)\/
   ((S.feed W b).2≠0/\e=.returned (.tuple #[.slice none 0 0,.slice none 0 0,.int .i64 (S.feed W b).2])))
theorem EM(W w0 w:World)(B K:Nat)(S:SS)(G:Nat->Prop)(b:ByteArray)(h:qm w0 w B S G)(hI:XW K S)(hP:FH S.pend)(hK:K<=268435456):
  Calls Tryz.prog 18 #[.pointer (some ⟨B,0,none⟩),.string b] w (LvF W w0 B S G b w):=by
 obtain⟨F,f,h1,h2,h3⟩:=h;refine(Ns W F G B K S b w ⟨f,h1⟩ hI hP hK).mono ?_;rintro e w' ⟨F',f',hA,hr⟩;have hz:=hA.step.size;refine⟨⟨F',f',hA.hf,fun k hk=>?_,⟨hA.step.os.trans h3.os,hA.step.tape.trans h3.tape,hA.step.output.trans h3.output,Zh h3.size hz,fun k hk=>?_⟩⟩,hA.step,?_⟩
 ·rcases hk with hk|hk
  ·exact h2 k hk
  ·have:=h3.size;omega
 ·rw[hA.step.block k (Zc hk h3.size) (fun e=>by have:=h2 k e;omega)]
  exact h3.block k hk
 ·rcases hr with⟨h0,he⟩|hr
  ·obtain⟨us,ho,hev⟩:=hA.hf.m.told
   have kH:=hA.hf.m.YC;obtain⟨a,n,c,e1⟩:=ho.form;obtain⟨a2,n2,c2,e2⟩:=kH.form;rw[e1]at ho;rw[e2]at kH;rw[e1,e2]at he;obtain⟨p1,-,-,p4,-⟩:=ho.su.get;obtain⟨s1,-,-,s4,-⟩:=kH.sl.get;exact .inl ⟨h0,a,n,c,us,a2,n2,c2,he,p1,p4,hev.keep (Xv.refl _ _) hA.hf.fg,s1,s4⟩
  ·exact .inr hr
theorem VR(w0 w:World)(B K:Nat)(S:SS)(G:Nat->Prop)(h:qm w0 w B S G)(hI:XW K S):
  Calls Tryz.prog 14 #[.pointer (some ⟨B,0,none⟩)] w (FM S w):=by
 obtain⟨F,f,h1,h2,h3⟩:=h;exact iB F G B K S w ⟨f,h1⟩ hI (by have:=hI.rw_;have:=hI.wd;omega)
def LvN(W:World)(N:Nat)(most width:Int)(T:List ByteArray)(w:World)(e:Ending)(w':World):Prop:=
 (Below w.heap.size w w'/\e=.returned (.tuple #[.pointer none,.slice none 0 0,.slice none 0 0,.bool false])/\((1<=most/\most<=50/\2<=width/\width<=120)->Un W T (SS.new most width) [] []=none))\/
  ((
   1<=most/\most<=50/\2<=width/\width<=120)/\∃B G S l m a n c us a2 n2 c2,Un W T (SS.new most width) [] []=some (S,l,m)/\e=.returned (.tuple #[.pointer (some ⟨B,0,none⟩),.slice a n c,.slice a2 n2 c2,.bool true])/\qm w w' B S G/\zD N (Jf T) most S l m/\
   us.length=n/\X0 w' a us/\ji G w' us l/\m.length=n2/\Ints w' a2 m/\n<=4398046511104/\S.width=width)
theorem NU{W:World}{N used:Nat}{most:Int}{S:SS}{l:List (Int×List Int)}{m:List Int}(h:zD N used most S l m)(b:ByteArray)(hN:used+b.size<=N)(he:(S.feed W b).2=0):(S.feed W b).1.width=S.width:=by
 obtain⟨ho,hb,e⟩:=jR he;obtain⟨K,hI,hK,-,-⟩:=h.inv;have hcnt:=Gl (S.pend++b);rw[ByteArray.size_append]at hcnt;rw[e];generalize(K4 (S.pend++b)).out=L at *;have hI0:XW K ({S with pend:=Cn (K4 (S.pend++b)).ah,told:=[],YC:=[]}:SS):={hI with};exact(uy (W:=W) L hI0 ho N QQ).width
theorem Aa{W:World}{N:Nat}{most:Int}:∀(T:List ByteArray) {used:Nat} {S:SS} {l:List (Int×List Int)} {m:List Int} {S':SS} {l':List (Int×List Int)} {m':List Int},zD N used most S l m->used+Jf T<=N->Un W T S l m=some (S',l',m')->S'.width=S.width
 | [],used,S,l,m,S',l',m',h,hN,e=>by
  simp only[Un,ZM,Yg]at e;obtain⟨rfl,rfl,rfl⟩:=e;rfl
 | b::T,used,S,l,m,S',l',m',h,hN,e=>by
  have hs:Jf (b::T)=b.size+Jf T:=rfl;rw[hs]at hN;unfold Un at e;by_cases hz:(S.feed W b).2=0
  ·rw[if_pos hz]at e
   exact(Aa T (h.step (W:=W) b QQ hz) QQ e).trans (NU h b QQ hz)
  ·rw[if_neg hz]at e;cases e
theorem vg(W:World)(most width:Int)(ta:Option Addr)(tn tc N:Nat)(T:List ByteArray)(w:World)(hT:Strs w ta T)(hn:T.length=tn)(hN:Jf T<=N)(hNb:N<=1048576)(htn:tn<=1048576):
  Calls Tryz.prog 13 #[.int .i64 most,.int .i64 width,.slice ta tn tc] w (LvN W N most width T w):=by
 refine(iI W most width ta tn tc N T w hT hn hN hNb htn).mono ?_;rintro e w' ⟨hb,⟨h1,h2⟩|⟨hg,B,G,F,f,S,v1,v2,l,m,hf,he,hR⟩⟩
 ·exact .inl ⟨hb,h1,h2⟩
 ·have hI:=IG T (zD.new (N:=N) hg) QQ hf
  have hwd:=Aa T (zD.new (N:=N) hg) QQ hf;rw[XN]at hI;obtain⟨us,ho,hev⟩:=hR.ev;have hsg:=hR.sg;obtain⟨a,n,c,rfl⟩:=ho.form;obtain⟨a2,n2,c2,rfl⟩:=hsg.form;obtain⟨p1,-,-,p4,-⟩:=ho.su.get;obtain⟨s1,-,-,s4,-⟩:=hsg.sl.get;obtain⟨K,-,hK,hl,-⟩:=hI.inv;have hmul:K*(N+2)<=1048576*1048578:=Nat.mul_le_mul QQ QQ;refine .inr ⟨hg,B,G,S,l,m,a,n,c,us,a2,n2,c2,hf,he,⟨F,f,hR.hf,hR.gl,hR.YX⟩,hI,p1,p4,hev.keep (Xv.refl _ _) hR.hf.fg,s1,s4,?_,hwd⟩;rw[<-p1,hev.1];omega
theorem Pq(c:Int)(h0:0<=c)(h1:c<=255)(w:World):Calls Tryz.prog 78 #[.int .i64 c,.int .u8 c] w fun e w'=>e=.returned (.bool true)/\w=w':=by
 go_enter Tryz.func78,Tryz.ntmps78
 exact QEd
theorem iL(a:Option Addr)(b n ca cb:Nat)(xs:List Int)(w:World)(ha:Ints w a xs)(hn:xs.length=n)(hb:∀j,j<n->w.cell? ⟨b,j,none⟩=some (.int .u8 (ix xs j)))(hr:∀j,j<n->0<=ix xs j/\ix xs j<=255)(hx:n<=4096):
  Calls Tryz.prog 77 #[.slice a n ca,.slice (some ⟨b,0,none⟩) n cb,.func (.func 78) #[] #[]] w fun e w'=>e=.returned (.bool true)/\∃n,w'=w.drewN n:=by
 have HA:=Zy ha;have HN:=Zy hn;have HB:=Zy hb;have HR:=Zy hr;clear ha hn hb hr;go_enter Tryz.func77,Tryz.ntmps77
 go_wp2
 go_loopw [17] (fun i wr=>∃k:Nat,i=.int .i64 (k:Int)/\k<=n/\∃n,wr=w.drewN n) (fun i _=>n-(intOf i).toNat)
 case atStart=>exact⟨0,rfl,Z0 _,0,rfl⟩
 case round=>
  obtain⟨k,rfl,hk,m,rfl⟩:=hrel;by_cases hlt:k<n
  ·have e2:=HB.out k hlt
   obtain⟨r0,r1⟩:=HR.out k hlt;obtain⟨b1,o1,rfl,e0⟩:=HA.out.at (k:=k) Qx;have e1:=e0 k Qx;clear e0;go_wp2_with ((go_at_call 78);refine(Pq _ r0 r1 _).mono ?_;rintro e w2 ⟨rfl,rfl⟩)
   exact QFp
  ·go_wp2
   go_ret;exact⟨rfl,m,rfl⟩
def bL(s:ByteArray):List Int:=(List.range s.size).map (bt s)
theorem fV(s:ByteArray):(bL s).length=s.size:=by simp[bL]
theorem QQK(s:ByteArray){j:Nat}(hj:j<s.size):ix (bL s) j=bt s j:=by
 rw[Yw (by rw[fV];exact hj)];simp[bL]
theorem uf(a:Option Addr)(n c:Nat)(xs:List Int)(s:ByteArray)(w:World)(ha:Ints w a xs)(hn:xs.length=n)(he:xs=bL s)(hs:s.size<=4096):
  Calls Tryz.prog 41 #[.slice a n c,.string s] w fun e w'=>e=.returned (.bool true)/\Below w.heap.size w w':=by
 have hcv:=Lib.run_convert_string_bytes (P:=Tryz.prog) w 9 156 5 s Tryz.underlying9 Tryz.underlying156 Tryz.underlying5;have hb:=Ih w 5 s;have hsn:s.size=n:=by rw[<-hn,he,fV]
 have HC:=Zy (show∀j,j<n->(Lib.bytesWorld w 5 s).cell? ⟨w.heap.size,j,none⟩=some (.int .u8 (ix xs j))from fun j hj=>by rw[he,QQK s QQ];exact Lib.bytesWorld_cell w 5 s j QQ);have HR:=Zy (show∀j,j<n->0<=ix xs j/\ix xs j<=255 from fun j hj=>by rw[he,QQK s QQ];exact Uc s j);have HA:=Zy (ha.below hb);have HN:=Zy hn;have hs4:n<=4096:=QQ;subst hsn;clear ha hn he;go_enter Tryz.func41,Tryz.ntmps41
 go_wp2_with ((go_at_call 77);refine(iL _ _ _ _ _ xs _ HA.out HN.out HC.out HR.out hs4).mono ?_;rintro e w2 ⟨rfl,nd,rfl⟩)
 go_ret;exact⟨rfl,below_drewN hb nd⟩
theorem Yf.ints{P:Nat->Prop}{w:World}{a:Option Addr}{n c:Nat}{xs:List Int}(h:Yf P w (.slice a n c) xs):Ints w a xs:=h.get.2.2.2.1
theorem QQh{rr:List Value}(h:rr.length=27):∃x0 x1 x2 x3 x4 x5 x6 x7 x8 x9 Sa rA x12 x13 x14 x15 x16 x17 x18 x19 x20 x21 SN SL x24 x25 SI,rr=[x0,x1,x2,x3,x4,x5,x6,x7,x8,x9,Sa,rA,x12,x13,x14,x15,x16,x17,x18,x19,x20,x21,SN,SL,x24,x25,SI]:=by
 obtain⟨x0,rr,rfl⟩:∃y t,rr=y::t:=by
  exact QC8
 obtain⟨x1,rr,rfl⟩:∃y t,rr=y::t:=by
  exact QC8
 obtain⟨x2,rr,rfl⟩:∃y t,rr=y::t:=by
  exact QC8
 obtain⟨x3,rr,rfl⟩:∃y t,rr=y::t:=by
  exact QC8
 obtain⟨x4,rr,rfl⟩:∃y t,rr=y::t:=by
  exact QC8
 obtain⟨x5,rr,rfl⟩:∃y t,rr=y::t:=by
  exact QC8
 obtain⟨x6,rr,rfl⟩:∃y t,rr=y::t:=by
  exact QC8
 obtain⟨x7,rr,rfl⟩:∃y t,rr=y::t:=by
  exact QC8
 obtain⟨x8,rr,rfl⟩:∃y t,rr=y::t:=by
  exact QC8
 obtain⟨x9,rr,rfl⟩:∃y t,rr=y::t:=by
  exact QC8
 obtain⟨Sa,rr,rfl⟩:∃y t,rr=y::t:=by
  exact QC8
 obtain⟨rA,rr,rfl⟩:∃y t,rr=y::t:=by
  exact QC8
 obtain⟨x12,rr,rfl⟩:∃y t,rr=y::t:=by
  exact QC8
 obtain⟨x13,rr,rfl⟩:∃y t,rr=y::t:=by
  exact QC8
 obtain⟨x14,rr,rfl⟩:∃y t,rr=y::t:=by
  exact QC8
 obtain⟨x15,rr,rfl⟩:∃y t,rr=y::t:=by
  exact QC8
 obtain⟨x16,rr,rfl⟩:∃y t,rr=y::t:=by
  exact QC8
 obtain⟨x17,rr,rfl⟩:∃y t,rr=y::t:=by
  exact QC8
 obtain⟨x18,rr,rfl⟩:∃y t,rr=y::t:=by
  exact QC8
 obtain⟨x19,rr,rfl⟩:∃y t,rr=y::t:=by
  exact QC8
 obtain⟨x20,rr,rfl⟩:∃y t,rr=y::t:=by
  exact QC8
 obtain⟨x21,rr,rfl⟩:∃y t,rr=y::t:=by
  exact QC8
 obtain⟨SN,rr,rfl⟩:∃y t,rr=y::t:=by
  exact QC8
 obtain⟨SL,rr,rfl⟩:∃y t,rr=y::t:=by
  exact QC8
 obtain⟨x24,rr,rfl⟩:∃y t,rr=y::t:=by
  exact QC8
 obtain⟨x25,rr,rfl⟩:∃y t,rr=y::t:=by
  exact QC8
 obtain⟨SI,rr,rfl⟩:∃y t,rr=y::t:=by
  exact QC8
 obtain rfl:rr=[]:=Ze QAF;exact⟨x0,x1,x2,x3,x4,x5,x6,x7,x8,x9,Sa,rA,x12,x13,x14,x15,x16,x17,x18,x19,x20,x21,SN,SL,x24,x25,SI,rfl⟩
section
variable {S:SS} {v r lv:Value} {rr:List Value} {n:Nat} {wh:Int}
theorem Cr(hr:rr.length=27)(w:World):(Instr.field 41 (.agg (XP (zC S v r lv rr n wh))) 0).run Tryz.prog w=.ok (.agg #[v,.int .i64 S.pos]) w:=by
 exact QEV
theorem RY(hr:rr.length=27)(w:World):(Instr.field 41 (.agg (XP (zC S v r lv rr n wh))) 6).run Tryz.prog w=.ok lv w:=by
 exact QEV
end
theorem jw(a:Option Addr)(n c:Nat)(v:Value)(w:World):(Instr.field 30 (.agg #[.slice a n c,v]) 0).run Tryz.prog w=.ok (.slice a n c) w:=QX
theorem IE(W:World)(b:ByteArray)(S:SS)(l:List (Int×List Int))(m:List Int)(h:(S.feed W b).2=0):Un W [b] S l m=some ((S.feed W b).1,l++(S.feed W b).1.told,m++(S.feed W b).1.YC):=by
 unfold Un;rw[if_pos h];rfl
theorem Ro(W:World)(b:ByteArray)(S S1:SS)(h:(S.feed W b).2=0)(h1:(S.feed W b).1=S1)(h2:S1.told=[]):Un W [b] S [] []=some (S1,[],S1.YC):=by
 rw[IE W b S [] [] h,h1,h2];rfl
theorem N8:Jf [iU]=9:=QX
theorem Gc:rD.size=1:=QX
theorem Gb:rC.size=2:=QX
theorem QQY:[99,100]=bL ⟨#[99,100]⟩:=QX
theorem oI:[97,98,32,99,100]=bL ⟨#[97,98,32,99,100]⟩:=QX
theorem Fw(W:World):∃S1 S2 S3:SS,(∃YC,Un W [iU] (SS.new 5 10) [] []=some (S1,[],YC))/\S1.text=[99,100]/\(S1.feed W rD).2=0/\(S1.feed W rD).1=S2/\S2.told=[]/\S2.text=[97,98,32,99,100]/\
  (S2.feed W rC).2=0/\(S2.feed W rC).1=S3/\S3.told=[(2,[99,100])]/\S3.Z8.ls.length=1:=by
 have h1:=QQL W;have h2:=QQI W;have h3:=QQH W;have e1:((SS.new 5 10).feed W iU).1=rG W:=by unfold rG;rfl
 have e2:((rG W).feed W rD).1=rF W:=by unfold rF;rfl
 have e3:((rF W).feed W rC).1=wS3 W:=by unfold wS3;rfl
 generalize wS3 W=S3 at *;generalize rF W=S2 at *;generalize rG W=S1 at *;obtain⟨g1,g2,g3⟩:=h1;obtain⟨g4,g5,g6⟩:=h2;obtain⟨g7,g8,g9⟩:=h3;exact⟨S1,S2,S3,⟨S1.YC,Ro W iU _ S1 g1 e1 g2⟩,g3,g4,e2,g5,g6,g7,e3,g8,g9⟩
theorem GN(w:World)(s:ByteArray):Strs (w.alloc (.cells #[.string s] 9)) (some ⟨w.heap.size,0,none⟩) [s]:=by
 refine .inr ⟨w.heap.size,0,rfl,fun i hi=>?_⟩;obtain rfl:i=0:=Qa;exact(Za.new w #[.string s] 9).cell 0
theorem FM.hid{S:SS}{w w':World}{e:Ending}(h:FM S w e w'):∃rs v r lv rr,e=.returned (.agg (XP rs))/\rs=zC S v r lv rr S.past.length S.Z8.Zi/\Na (fun k=>w.heap.size<=k) w' S v r lv rr/\Below w.heap.size w w':=by
 obtain⟨v,r,lv,rr,h1,h2,h3⟩:=h;exact⟨_,v,r,lv,rr,h1,rfl,h2,h3⟩
theorem yh(w:World):Calls Tryz.prog 12 #[] w fun e w'=>e=.returned (.bool true)/\Below w.heap.size w w':=by
 have hb0:=ZT w (.cells #[.string iU] 9);have hS:=GN w iU;have hFD:=Zy (vg w 5 10 (some ⟨w.heap.size,0,none⟩) 1 1 12 [iU] _ hS rfl (by rw[N8];omega) QQ QQ);have HB0:=Zy hb0;obtain⟨S1,S2,S3,⟨QyI,hf1⟩,ht1,hz2,hS2,hd2,ht2,hz3,hS3,hd3,hl3⟩:=Fw w;clear hS hb0;have HP:=Zy (show _/\_/\_/\_/\_/\_/\_/\_/\_ from⟨ht1,hz2,hS2,hd2,ht2,hz3,hS3,hd3,hl3⟩);have HF1:=Zy hf1;clear hf1 ht1 hz2 hS2 hd2 ht2 hz3 hS3 hd3 hl3;go_enter Tryz.func12,Tryz.ntmps12
 go_wp2_with fail
 refine hFD.out.mono ?_;rintro e w1 (⟨hb1,rfl,hno⟩|⟨hg,B,G,S,l,m,a,n,c,us,a2,n2,c2,hf,rfl,hL,hI,p1,p4,hev,s1,s4,nX,hwd⟩)
 ·have:=hno ⟨QQ,QQ,QQ,QQ⟩
  rw[HF1.out]at this;cases this
 have e1:=hf.symm.trans HF1.out;simp only[ZM,Yg]at e1;obtain⟨rfl,rfl,rfl⟩:=e1;obtain rfl:n=0:=by rw[<-p1,hev.1];rfl
 rw[N8]at hI;have hI2:=hI.step (W:=w) rD (by rw[Gc];omega) HP.out.2.1;rw[Gc,HP.out.2.2.1,HP.out.2.2.2.1]at hI2;have DZ:=hI2.step (W:=w) rC (by rw[Gb];omega) HP.out.2.2.2.2.2.1;rw[Gb,HP.out.2.2.2.2.2.2.1]at DZ;obtain⟨K,hK,hKl,-,-⟩:=hI.inv;obtain⟨K2,hK2,QWi,-,-⟩:=hI2.inv;obtain⟨K3,hK3,QWh,-,-⟩:=DZ.inv;have pg:=Zy hI.pend;have HP2:=Zy hI2.pend;have HK:=Zy hK;have FR:=Zy hK2;have HK3:=Zy hK3;have hq1:K<=268435456:=QQ;have hq2:K2<=268435456:=QQ;have Ni:=Zy (VR _ w1 B K _ G hL hK);have HL:=Zy hL;clear hf p1 p4 hev s1 s4 hL hI hI2 DZ hK hK2 hK3 hKl QWi QWh nX hg hwd HF1;go_wp2_with fail
 refine Ni.out.mono ?_;intro e w2 h2;obtain⟨rs,v,r,lv,rr,rfl,hrs,hR2,hb2⟩:=h2.hid;obtain⟨a3,n3,c3,rfl⟩:=hR2.t.form;have hfl:∀w,(Instr.field 41 (.agg (XP rs)) 0).run Tryz.prog w=.ok (.agg #[.slice a3 n3 c3,.int .i64 S.pos]) w:=fun w=>by rw[hrs];exact Cr hR2.lr w
 have hln:=fun w=>jw a3 n3 c3 (.int .i64 S.pos) w
 have LA:=Zy (uf a3 n3 c3 S.text ⟨#[99,100]⟩ w2 hR2.t.ints hR2.t.get.1 (HP.out.1.trans QQY) QZ);have HL2:=Zy (HL.out.below hb2);clear h2 hrs hR2 hb2 Ni;go_wp2_with fail
 refine LA.out.mono ?_;rintro e w3 ⟨rfl,hb3⟩;have hL3:=HL2.out.below hb3;have I9:=Zy (EM w _ w3 B K S G rD hL3 HK.out pg.out hq1);clear hfl hln hb3 hL3 LA;go_wp2_with fail
 refine I9.out.mono ?_;rintro e w4 ⟨hL4,-,⟨-,a,n,c,us,a2,n2,c2,rfl,p1,p4,hev,-,-⟩|⟨hnz,-⟩⟩
 case inr=>exact absurd HP.out.2.1 hnz
 rw[HP.out.2.2.1]at hL4 hev;obtain rfl:n=0:=by rw[<-p1,hev.1,HP.out.2.2.2.1];rfl
 have Ni:=Zy (VR _ w4 B K2 _ _ hL4 FR.out);have HL4:=Zy hL4;clear p1 p4 hev hL4 I9;go_wp2_with fail
 refine Ni.out.mono ?_;intro e w5 h5;obtain⟨rs5,v5,r5,lv5,rr5,rfl,hrs,hR2,hb2⟩:=h5.hid;obtain⟨a5,n5,c5,rfl⟩:=hR2.t.form;have hfl:∀w,(Instr.field 41 (.agg (XP rs5)) 0).run Tryz.prog w=.ok (.agg #[.slice a5 n5 c5,.int .i64 S2.pos]) w:=fun w=>by rw[hrs];exact Cr hR2.lr w
 have hln:=fun w=>jw a5 n5 c5 (.int .i64 S2.pos) w
 have LA:=Zy (uf a5 n5 c5 S2.text ⟨#[97,98,32,99,100]⟩ w5 hR2.t.ints hR2.t.get.1 (HP.out.2.2.2.2.1.trans oI) QZ);have HL5:=Zy (HL4.out.below hb2);clear h5 hrs hR2 hb2 Ni;go_wp2_with fail
 refine LA.out.mono ?_;rintro e w6 ⟨rfl,hb3⟩;have hL6:=HL5.out.below hb3;have HF3:=Zy (EM w _ w6 B K2 S2 _ rC hL6 FR.out HP2.out hq2);clear hfl hln hb3 hL6 LA;go_wp2_with fail
 refine HF3.out.mono ?_;rintro e w7 ⟨hL7,-,⟨-,a7,n7,c7,us7,a8,n8,c8,rfl,p1,p4,hev,-,-⟩|⟨hnz,-⟩⟩
 case inr=>exact absurd HP.out.2.2.2.2.2.1 hnz
 rw[HP.out.2.2.2.2.2.2.1]at hL7 hev;rw[HP.out.2.2.2.2.2.2.2.1]at hev;obtain rfl:n7=1:=by rw[<-p1,hev.1];rfl
 obtain⟨b7,o7,rfl,dV⟩:=p4.at (k:=0) QQ;obtain⟨y0,y1⟩:=dV 0 QQ;obtain⟨z0,z1⟩:=hev.2 0 QJ;obtain⟨a9,n9,c9,z2⟩:=z1.form;rw[z0]at y0;rw[z2]at y1 z1;simp only[List.getElem_cons_zero,Nat.zero_mul,X8,XN]at y0 y1 z1;have LA:=Zy (uf a9 n9 c9 [99,100] ⟨#[99,100]⟩ w7 z1.ints z1.get.1 QQY QZ);have HL7:=Zy hL7;clear p1 p4 hev hL7 HF3 dV z0 z1 z2;go_wp2_with fail
 refine LA.out.mono ?_;rintro e w8 ⟨rfl,hb3⟩;have hL8:=HL7.out.below hb3;have Ni:=Zy (VR _ w8 B K3 _ _ hL8 HK3.out);have HL8:=Zy hL8;clear hb3 hL8 LA y0 y1;go_wp2_with fail
 refine Ni.out.mono ?_;intro e w9 h9;obtain⟨rs9,v9,r9,lv9,rr9,rfl,hrs,hR2,hb2⟩:=h9.hid;obtain⟨vs9,⟨a6,n6,c6,rfl,hv1,-⟩,hv2⟩:=hR2.ls;obtain rfl:n6=1:=by rw[<-hv1,hv2.1];exact HP.out.2.2.2.2.2.2.2.2
 have hfl:∀w,(Instr.field 41 (.agg (XP rs9)) 6).run Tryz.prog w=.ok (.slice a6 1 c6) w:=fun w=>by rw[hrs];exact RY hR2.lr w
 have HL9:=Zy (HL8.out.below hb2);clear h9 hrs hR2 hb2 hv1 hv2;go_wp2;go_ret;exact⟨rfl,HB0.out.trans (HL9.out.YX.mono HB0.out.size)⟩
theorem iR(k:Int)(a:Option Addr)(n c:Nat)(hn:n<=200)(w:World):
  Calls Tryz.prog 16 #[.agg #[.int .i64 k,.slice a n c]] w (fun e w'=>e=.returned (.bool false)/\Below w.heap.size w w'):=by
 have hb:=ZT w (.cells #[.int .i64 k,.slice a n c] 45);have hb0:=ZH w.heap.size w;obtain⟨l0,l1,-,-⟩:=(Za.new w #[.int .i64 k,.slice a n c] 45).two;have hlt:¬(200:Int)<(n:Int):=QQ;go_enter Tryz.func16,Tryz.ntmps16
 go_wp2;go_ret;first|exact⟨rfl,hb⟩|exact⟨rfl,hb0⟩
theorem TR(la:Option Addr)(ln lc:Nat)(us:List V2)(l:List (Int×List Int))(F:Nat->Prop)(w:World)(hP:X0 w la us)(hE:ji F w us l)(hn:us.length=ln)(hx:ln<=4398046511104)(hl:∀e∈l,e.2.length<=200):
  Calls Tryz.prog 44 #[.slice la ln lc,.func (.func 16) #[] #[]] w fun e w'=>e=.returned (.int .i64 (-1))/\Below w.heap.size w w':=by
 have HP:=Zy hP;have HE:=Zy hE;have HN:=Zy hn;have HL:=Zy hl;clear hP hE hn hl;go_enter Tryz.func44,Tryz.ntmps44
 go_wp2
 go_loopw [8] (fun i wr=>∃k:Nat,i=.int .i64 (k:Int)/\k<=ln/\Below w.heap.size w wr) (fun i _=>ln-(intOf i).toNat)
 case atStart=>exact⟨0,rfl,QQ,ZH _ _⟩
 case round=>
  obtain⟨k,rfl,hk,hbel⟩:=hrel;by_cases hlt:k<ln
  ·have hjv:k<us.length:=by rw[HN.out];exact hlt
   have hjl:k<l.length:=by rw[<-HE.out.1];exact hjv
   obtain⟨b1,o1,rfl,hc⟩:=HP.out.at hjv;obtain⟨c0,c1⟩:=hc k hjv;obtain⟨e0,e1⟩:=HE.out.2 k hjl;obtain⟨a1,n1,k1,e2⟩:=e1.form;rw[e2]at e1 c1;rw[e0]at c0;have hn1:n1<=200:=by have:=HL.out _ (YK hjl);rw[e1.get.1]at this;exact this
   have d0:=(hbel.cell (XU c0)).trans c0;have d1:=(hbel.cell (XU c1)).trans c1;have d2:wr.cell? ⟨b1,o1+k*2+1,none⟩=some (.slice a1 n1 k1):=d1;have i0:(0:Int)<=(k:Int):=QQ;have i1:(k:Int)<(ln:Int):=QQ;have HC:=Zy (iR l[k].1 a1 n1 k1 hn1 wr);have HBE:=Zy hbel;have hbs:=hbel.size;clear hc c0 c1 e0 e1 e2 hbel hn1;go_wp2_with (go_at_call 16;go_loud (refine(HC.out).mono ?_;rintro e w3 ⟨rfl,hb3⟩))
   exact⟨⟨k+1,Qk,QQ,HBE.out.trans (hb3.mono hbs)⟩,Qp⟩
  ·have hno:¬(k:Int)<(ln:Int):=by omega
   exact QFU
theorem GL(la:Option Addr)(ln lc:Nat)(us:List V2)(l:List (Int×List Int))(F:Nat->Prop)(w:World)(hP:X0 w la us)(hE:ji F w us l)(hn:us.length=ln)(hx:ln<=4398046511104)(hl:∀e∈l,e.2.length<=200):
  Calls Tryz.prog 15 #[.slice la ln lc,.func (.func 16) #[] #[]] w fun e w'=>e=.returned (.bool false)/\Below w.heap.size w w':=by
 have HI:=Zy (TR la ln lc us l F w hP hE hn hx hl);clear hP hE hn hl;go_enter Tryz.func15,Tryz.ntmps15
 go_wp2_with (go_at_call 44;go_loud (refine(HI.out).mono ?_;rintro e w3 ⟨rfl,hb3⟩))
 go_ret;exact⟨rfl,hb3⟩
theorem Strs.below{w w':World}{a:Option Addr}{T:List ByteArray}(h:Strs w a T)(hb:Below w.heap.size w w'):Strs w' a T:=by
 rcases h with h|⟨b,o,h1,h2⟩
 ·exact .inl h
 ·exact .inr ⟨b,o,h1,fun i hi=>ZL hb _ _ (h2 i hi)⟩
theorem nJ{h:Hi}(he:xC h=0):(h.ls.length:Int)<=h.most:=by
 unfold xC at he;by_cases h1:h.most<1\/50<h.most\/h.most<h.ls.length\/h.Zi<0\/(h.ls.length:Int)<h.Zi
 ·rw[if_pos h1]at he;cases he
 ·omega
theorem MM{w9:World}{R:Nat}{S:SS}{v r lv:Value}{rr:List Value}{n:Nat}{wh:Int}{rs:List Value}(h:Xj w9 R rs 41)(he:rs=zC S v r lv rr n wh)(hr:rr.length=27):
  w9.cell? ⟨R,0,none⟩=some v/\w9.cell? ⟨R,1,none⟩=some (.int .i64 S.pos)/\w9.cell? ⟨R,2,none⟩=some (.int .i64 S.mode)/\w9.cell? ⟨R,3,none⟩=some (.int .i64 S.part.a)/\w9.cell? ⟨R,4,none⟩=some (.int .i64 S.part.b)/\w9.cell? ⟨R,5,none⟩=some (.int .i64 S.part.c)/\w9.cell? ⟨R,6,none⟩=some (.int .i64 S.part.d)/\w9.cell? ⟨R,7,none⟩=some (.int .i64 S.part.e)/\w9.cell? ⟨R,37,none⟩=some (.int .i64 (n:Int))/\w9.cell? ⟨R,38,none⟩=some lv:=by
 subst he;have hl:=KM (S:=S) (v:=v) (r:=r) (lv:=lv) (n:=n) (wh:=wh) hr;refine⟨h.cell (i:=0) QQ,h.cell (i:=1) QQ,h.cell (i:=2) QQ,h.cell (i:=3) QQ,h.cell (i:=4) QQ,h.cell (i:=5) QQ,h.cell (i:=6) QQ,h.cell (i:=7) QQ,?_,?_⟩
 ·rw[h.cell (i:=37) QQ]
  unfold vx zC;rw[Zf,XY QBI];simp[EO,mF,hr]
 ·rw[h.cell (i:=38) QQ,uz hr]
theorem ug(a:Option Addr)(n c:Nat)(T:List ByteArray)(most width:Int)(w:World)(hT:Strs w a T)(hn:T.length=n)(hN:Jf T+n<=1048576):
  Calls Tryz.prog 3 #[.int .i64 most,.int .i64 width,.slice a n c] w fun e w'=>e=.returned (.bool true)/\Below w.heap.size w w':=by
 have HW:=Zy (yh w);have HFD:=Zy (fun(w1:World) (hb:Below w.heap.size w w1)=>vg w most width a n c (Jf T) T w1 (hT.below hb) hn (ZB _) QQ QQ);clear hT hn hN;go_enter Tryz.func3,Tryz.ntmps3
 go_wp2_with fail
 refine HW.out.mono ?_;rintro e w1 ⟨rfl,hb1⟩;go_wp2_with fail
 refine(HFD.out _ hb1).mono ?_;rintro e w2 (⟨hb2,rfl,-⟩|⟨hg,B,G,S,l,m,a1,n1,c1,us,a2,n2,c2,hf,rfl,hL,hI,p1,p4,hev,s1,s4,nX,hwd⟩)
 ·go_wp2
  go_ret;exact⟨rfl,hb1.trans (hb2.mono hb1.size)⟩
 ·obtain⟨K,hK,-,-,-⟩:=hI.inv
  have Ni:=Zy (VR _ w2 B K _ G hL hK);have HB2:=Zy (show Below w.heap.size w w2 from hb1.trans (hL.YX.mono hb1.size));have HEV:=Zy (fun(w':World) (hb:Below w2.heap.size w2 w')=>GL a1 n1 c1 us l G w' (p4.keep (fun _ _ h=>ZL hb _ _ h)) (hev.keep (Xv.below G hb) (fun _ h=>h)) p1 nX hI.lens);have HI:=Zy hI;have HK:=Zy hK;clear hf hL hI p1 p4 hev s1 s4 nX hwd hg hK hb1;go_wp2_with fail
  refine Ni.out.mono ?_;intro e w5 h5;obtain⟨rs,v,r,lv,rr,rfl,hrs,KF,hb5⟩:=h5.hid;obtain⟨a3,n3,c3,rfl⟩:=KF.t.form;have hq1:=KF.t.get.1;obtain⟨vs,hvs,hvl⟩:=KF.ls;obtain⟨a4,n4,c4,rfl,hq2,-⟩:=hvs;have hq3:=hvl.1;have hlr:=KF.lr;have hlen:rs.length=44:=by rw[hrs];exact KM hlr
  have hone:∀x∈rs,x.oneCell'=true:=by rw[hrs];exact KF.one
  have qO:=(Jp (w:=w5) rfl).setCells 0 rs;rw[UH (by rw[Uy,hlen])]at qO;have Jv:Below w5.heap.size w5 ((w5.alloc Xc).setCells w5.heap.size 0 rs):=below_setCells (ZB _) rs 0 (ZT w5 Xc);obtain⟨y0,y1,y2,y3,y4,y5,y6,y7,y37,y38⟩:=MM qO hrs hlr;have hbb:=hb5.trans (Jv.mono hb5.size);have gY:=Zy hbb;have k0:=HK.out.tl;have k1:=HK.out.p0;have k2:=HK.out.p1;have k3:=HK.out.pc;have k4:=HK.out.md;have k5:=nJ HK.out.hi;have k6:=HK.out.pl;rw[HI.out.most]at k5;have KPT:=Zy HK.out.pt;have HLEN:=Zy hlen;have SB:=Zy hone;have q0:(n3:Int)<=200:=QQ;have q1:(n4:Int)<=most:=QQ;have q2:(S.past.length:Int)<=30:=QQ;have q3:S.pos<=(n3:Int):=QQ;have q4:S.mode=0\/S.mode=3->S.pos<=max 0 ((n3:Int)-1):=by rw[hq1]at k3;exact k3
  clear hb5 qO Jv hbb hvl hq1 hq2 hq3 hlr hlen hone KF h5 hrs k0 k2 k3 k5 k6;go_upto_region 7 with((with_reducible show wpList _ _ _ (⟨none,Op.store 41 _ _,_,_,_,_⟩::_) _ _);refine WS (w:=w5.alloc Xc) (B:=w5.heap.size) (Jp rfl) rfl _ _ rfl rfl rs rfl HLEN.out SB.out ?_;generalize(w5.alloc Xc).setCells w5.heap.size 0 rs=w9 at *)
  have HQ4:=Zy q4;clear q4;dsimp only[Act.put]
  go_cut [12] (fun v wx=>∃q0:Int,v=.int .i64 q0/\max 0 ((n3:Int)-1)<=q0/\w9=wx)
  case first=>
   rcases XM n3 with hz|hz
   ·subst hz
    go_wp2
    all_goals
     go_meet;exact⟨_,rfl,QQ,rfl⟩
   ·go_wp2
    all_goals
     go_meet;exact⟨_,rfl,by first|omega|(go_num;omega)|(simp;omega),rfl⟩
  obtain⟨q0,rfl,hq0,rfl⟩:=hcut;go_upto_region 8 with fail
  go_cut [42] (fun v wx=>∃b,v=.bool b/\(b=false->S.mode=0\/S.mode=3)/\w9=wx)
  case first=>
   rcases k4 with e|e|e|e
   all_goals
    rw[e]at y2;go_wp2;go_meet;exact⟨_,rfl,by simp[e],rfl⟩
  obtain⟨b,rfl,hbm,rfl⟩:=hcut;have HBM:=Zy hbm;clear hbm k4;have KC:=Zy (fun(w':World)=>YV S.part.a S.part.b S.part.c S.part.d S.part.e w');cases b with
  | true=>
   exact QDD
  | false=>
   have q5:S.pos<=q0:=by have:=HQ4.out (HBM.out rfl);omega
   clear q3;exact QDD
end Go.Proofs.YtmdcencmiopmmaaGreat
namespace Go.Proofs.YtmdcencmiopmmaaGreat
open Go.ChangeShapes Go.WideShapes Go.ChangeAt Go.RowKit
theorem R6{H:Type}{d:DataW H}{l:List (DataW H)}(h:d∈l):Rows.uptoBulk d<=Rows.uptoBulkAll l:=by
 induction l with
 | nil=>cases h
 | cons x r ih=>
  simp only[Rows.uptoBulkAll];cases Zb.1 h with
  | inl e=>subst e;omega
  | inr e=>have:=ih e;omega
theorem Ib{H:Type}(bytes:List UInt8):Rows.uptoBulk (DataW.lit (H:=H) (.string bytes))=bytes.length+1:=by simp[Rows.uptoBulk]
theorem NA{H:Type}{l:List (DataW H)}(hk:Rows.uptoSmall H l=true):Rows.uptoBulkAll l<=1048576:=of_decide_eq_true hk
theorem KG{H:Type}{l:List (DataW H)}(hk:Rows.uptoSmall H l=true){d:DataW H}(h:d∈l):Rows.uptoBulk d<=1048576:=
 Zh (R6 h) (NA hk)
theorem Strs.QQs{w:World}{x:Addr}{zs:List ByteArray}{n:Nat}(hc:∀i,i<zs.length->w.cell? (x.add i)=some (.string (zs.getD i ByteArray.empty)))(hn:n<=zs.length):Strs w (some x) (zs.take n):=by
 rcases XM n with rfl|h0
 ·exact .inl QJ
 ·obtain⟨b,o,sp⟩:=x
  have hspot:sp=none:=by simpa[Addr.add]using World.cell?_spot (hc 0 QQ)
  subst hspot;refine .inr ⟨b,o,rfl,fun i hi=>?_⟩;have hl:i<zs.length:=Qa;have hadd:(⟨b,o,none⟩:Addr).add i=⟨b,o+i,none⟩:=QN;rw[<-hadd,hc i hl];simp[hl]
theorem DU{H:Type}:∀(ss:List ByteArray),Jf ss+ss.length<=Rows.uptoBulkAll (strs (H:=H) ss)
 | []=>by simp[Jf,strs,Rows.uptoBulkAll]
 | s::r=>by
  have h:=DU (H:=H) r;have e:strs (H:=H) (s::r)=.lit (.string s.data.toList)::strs r:=rfl;rw[e];simp only[Rows.uptoBulkAll,Ib];have h1:Jf (s::r)=s.size+Jf r:=rfl;have h2:s.data.toList.length=s.size:=by rw[Array.length_toList];rfl
  simp only[XD];omega
theorem WL{H:Type}{enc:TypeId×Value->H}{W:World}{a:Option Addr}{n c:Nat}{d:DataW H}{p:List MemPlace}
  (h:DataW.Trod enc Tryz.prog W 0 (fun _=>true) true 22 (.slice a n c) d p):
  ∃T,Strs W a T/\T.length=n/\Jf T+n<=Rows.uptoBulk d:=by
 obtain⟨fuel,hf⟩:=h;rcases open_strings Tryz.underlying22 Tryz.underlying9 QX hf with⟨hcs,_⟩|⟨x,l,c',ss,hcs,_,hl,hm,hz,hx,hcell,hsz⟩
 ·simp[Value.cells]at hcs
  obtain⟨rfl,rfl,rfl⟩:=hcs;exact⟨[],.inl rfl,rfl,Z0 _⟩
 ·simp[Value.cells]at hcs
  obtain⟨rfl,rfl,rfl⟩:=hcs;simp only[if_true]at hz;have hlen:(ss.take n).length=n:=QY;refine⟨ss.take n,Strs.QQs hcell QQ,hlen,?_⟩;obtain⟨rfl,-⟩:=Prod.mk.inj hx;have:=DU (H:=H) (ss.take n);rw[hlen]at this;refine Zh this ?_;simp only[Rows.uptoBulk];omega
end Go.Proofs.YtmdcencmiopmmaaGreat
namespace Go.Proofs.YtmdcencmiopmmaaGreat
open Go
theorem jB{P:Program}{m:Machine}{w:World}{t:Trace}(h:aloneAtReturn P m w t):leavingAtReturn P m w t:=
 ⟨h.2.1,⟨fun g hg=>⟨0,show g.status=.finished by have:=List.all_eq_true.1 h.1.1 g hg;simpa using this⟩,h.1.2⟩,h.2.2⟩
theorem Js{p:Pinned}{s:OpenSpec}{c:OpenClaim}(f:FuncId)(fn:Func)
  (hn:c.program=p.name) (hs:c.sum=p.sum) (hsp:c.spec=s.name)
  (hstart:c.start=.entering) (hout:c.outside=[]) (hin:c.inits=[]) (hun:c.under=none) (hi4:c.initsInPlace=[]/\c.initsUnfollowed=false/\c.initsRecurse=false/\c.initsNamed=[]/\c.initsPassed=[]) (hnb:c.noBlocks=false) (hlv:c.leaving=true) (hfo:c.followed=none) (hnar:c.narrowed=s.cond.isSome) (hstill:c.still=false)
  (hfn:p.checked.prog.funcNamed c.func=some f) (hf:p.checked.prog.funcs[f]? =some fn)
  (closed:joinedFacts p.checked.prog f fn s.bare c=true)
  (hinst:fn.isInstance p.checked.prog c.origin c.targs) (hwrap:fn.isWrapper p.checked.prog c.wrapper c.mainSum)
  (h:∀os:Os,os.Started->∀(H:Type) (enc:TypeId×Value->H),(∀a b,enc a=enc b->a=b)->∀F:Stop.Interp,
   ReturnsInHanded c.assume p.checked os f .any (c.pre enc p.checked.prog fn s) ((s.at F).post enc p.checked.prog fn c.apart c.fresh c.handsOn c.again)):c.holds p s:=by
 simp only[joinedFacts,Bool.and_eq_true,beq_iff_eq,Array.all_eq_true_iff_forall_mem,List.all_eq_true,XI]at closed;obtain⟨⟨⟨⟨⟨⟨⟨⟨⟨⟨⟨⟨⟨⟨⟨⟨⟨⟨⟨⟨⟨⟨⟨⟨⟨⟨⟨⟨⟨⟨⟨k1,k2⟩,k3⟩,k4⟩,k5⟩,k6⟩,k7⟩,k8⟩,k9⟩,k10⟩,k11⟩,k12⟩,k13⟩,k14⟩,k15⟩,k16⟩,k17⟩,k17b⟩,k18⟩,k19⟩,k20⟩,k21⟩,k22⟩,k23⟩,k23b⟩,k24⟩,k24b⟩,k24c⟩,k25⟩,k26⟩,k27⟩,k28⟩:=closed;have hq:∀os:Os,Stop.quiet p.checked.prog os:=fun os k hk=>by rw[k9]at hk;cases hk
 refine⟨k1,hn,hs,hsp,k2,k3,by unfold OpenClaim.startFits;rw[hstart];exact k24,by unfold OpenClaim.startTold;rw[hstart];exact⟨hin,hun,hi4⟩,f,fn,hfn,hf,⟨k4,k19⟩,(fun hb=>by rw[hnb]at hb;cases hb),by unfold OpenClaim.namedList;rw[hfo];exact k5,hinst,hwrap,
  k6.trans k7.symm,⟨k8.trans k9.symm,by unfold Program.envWorded;rw[k9];rfl,k23b⟩,k10,k11,k12,k13,k14,⟨k15,k27,k28⟩,⟨k16,k20⟩,⟨k17,k21,k25,k26⟩,⟨k22,k24b,k24c,k17b⟩,(by rw[hout,hnar];cases hsh:c.shortTexts with|none=>simp|some _=>rw[hsh]at k23;cases k23),fun n hn'=>varReadable_some (k18 n hn'),
  ⟨_,by unfold OpenClaim.world;rw[hout,hstart];exact WideRow.started_initial,hq _⟩,[],by unfold OpenClaim.lists;rw[hfo],fun os st _ H enc inj=>?_⟩
 have st':os.Started:=by unfold OpenClaim.world at st;rw[hout,hstart]at st;exact st
 rw[OpenClaim.post_not_still hstill];unfold OpenClaim.form;rw[hstart,k6];intro F;have e1:c.okInput=Input.okWide:=by unfold OpenClaim.okInput;rw[hnb]
 have e2:c.atReturn p.checked.prog=leavingAtReturn p.checked.prog:=by unfold OpenClaim.atReturn;rw[hlv]
 have e3:c.always p.checked.prog []=nothingAlways:=by unfold OpenClaim.always;rw[hfo]
 have e4:s.post enc p.checked.prog fn F c.outside c.apart c.fresh c.handsOn c.again=(s.at F).post enc p.checked.prog fn c.apart c.fresh c.handsOn c.again:=by rw[hout];rfl
 rw[e1,e2,e3];show ReturnsInOpen _ _ _ _ _ _ _ _ (s.post enc p.checked.prog fn F c.outside c.apart c.fresh c.handsOn c.again) _ _;rw[e4];exact ReturnsInOpen.mono (fun _ _ _ q=>jB q) (fun _ x=>x) (h os st' H enc inj F k24)
end Go.Proofs.YtmdcencmiopmmaaGreat
namespace Go.Proofs.YtmdcencmiopmmaaGreat
open Go.RowKit
theorem iP(a1 a2:Option Addr)(n1 n2 c1 c2:Nat)(xs:List Int)(p:Int)(w:World)(h1:Ints w a1 xs)(h2:Ints w a2 xs)(e1:xs.length=n1)(e2:xs.length=n2)(hx:n1<=9223372036854775807):
  Calls Tryz.prog 36 #[.agg #[.slice a1 n1 c1,.int .i64 p],.agg #[.slice a2 n2 c2,.int .i64 p]] w fun e w'=>e=.returned (.bool true)/\Below w.heap.size w w':=by
 have E1:=Zy e1;have E2:=Zy e2;clear e1 e2;have hb2:=Zn w (.cells #[.slice a1 n1 c1,.int .i64 p] 30) (.cells #[.slice a2 n2 c2,.int .i64 p] 30);have h1:=h1.below hb2;have h2:=h2.below hb2;go_enter Tryz.func36,Tryz.ntmps36
 exact QEf
theorem L6(a1 a2:Option Addr)(n1 n2 c1 c2:Nat)(xs:List Int)(p:Int)(w:World)(h1:Ints w a1 xs)(h2:Ints w a2 xs)(e1:xs.length=n1)(e2:xs.length=n2)(hx:n1<=9223372036854775807):
  Calls Tryz.prog 33 #[.agg #[.slice a1 n1 c1,.int .i64 p],.agg #[.slice a2 n2 c2,.int .i64 p]] w fun e w'=>e=.returned (.bool true)/\Below w.heap.size w w':=by
 have E1:=Zy e1;have E2:=Zy e2;clear e1 e2;have hb2:=Zn w (.cells #[.slice a1 n1 c1,.int .i64 p] 39) (.cells #[.slice a2 n2 c2,.int .i64 p] 39);have h1:=h1.below hb2;have h2:=h2.below hb2;go_enter Tryz.func33,Tryz.ntmps33
 exact QEf
theorem iN(us vs:List Value)(X:List (List Int))(w:World)(hu:yL w us X)(hv:yL w vs X):
  Calls Tryz.prog 50 #[.agg (XP us),.agg (XP vs)] w fun e w'=>e=.returned (.bool true)/\Below w.heap.size w w':=by
 have hB0:=(Xj.new w us 36).alloc (.cells (XP vs) 36);have hB1:=Xj.new (w.alloc (.cells (XP us) 36)) vs 36;rw[Zv]at hB1;have hacc:=Zn w (.cells (XP us) 36) (.cells (XP vs) 36);have HU:=Zy (hu.below hacc);have HV:=Zy (hv.below hacc);clear hu hv;go_enter Tryz.func50,Tryz.ntmps50
 go_upto_region 1 with fail
 change Code.wp _ _ _ _ ((w.alloc (.cells (XP us) 36)).alloc (.cells (XP vs) 36));generalize(w.alloc (.cells (XP us) 36)).alloc (.cells (XP vs) 36)=w1 at *;go_wp2
 go_loopw [6] (fun i wr=>∃k:Nat,i=.int .i64 (k:Int)/\k<=27/\Xj wr w.heap.size us 36/\Xj wr (w.heap.size+1) vs 36/\yL wr us X/\yL wr vs X/\Below w.heap.size w wr) (fun i _=>27-(intOf i).toNat)
 case atStart=>exact⟨0,rfl,QQ,hB0,hB1,HU.out,HV.out,hacc⟩
 case round=>
  obtain⟨k,rfl,hk,hB0,hB1,hu,hv,hbel⟩:=hrel;have HU:=Zy hu;have HV:=Zy hv;clear hu hv;by_cases hlt:k<27
  ·obtain⟨a1,n1,c1,hv1,hn1,hc1,Qjf,hI1,h01⟩:=HU.out.sl k hlt
   obtain⟨a2,n2,c2,hv2,hn2,hc2,hc22,hI2,h02⟩:=HV.out.sl k hlt;have c0:=hB0.cell (i:=k) (by rw[HU.out.lv];exact hlt);have c1':=hB1.cell (i:=k) (by rw[HV.out.lv];exact hlt);rw[hv1]at c0;rw[hv2]at c1';have HN1:=Zy hn1;have HN2:=Zy hn2;have i0:(k:Int)<27:=QQ;clear hv1 hv2 hn1 hn2 h01 h02;go_wp2
   go_quiet ((go_at_call 23;exact Calls.quiet_of (VH a1 a2 n1 n2 c1 c2 (rx X k) _ (hI1.drewN _) (hI2.drewN _) HN1.out HN2.out QQ)))
   go_wp2;go_roundw
   case rel=>exact⟨k+1,Qk,QQ,hB0.drewN _,hB1.drewN _,HU.out.drewN _,HV.out.drewN _,below_drewN hbel _⟩
   case measure=>simp[intOf];omega
  ·obtain rfl:k=27:=by omega
   exact QFU
theorem QQb(a b:Option Addr)(na nb ca cb:Nat)(us vs:List Value)(X:List (List Int))(w:World)(ha:J7 w a us)(hb:J7 w b vs)(hna:us.length=na)(hnb:vs.length=nb)(hX:Lists w us X)(hY:Lists w vs X)(hx:na<=9223372036854775807):
  Calls Tryz.prog 93 #[.slice a na ca,.slice b nb cb,.func (.func 23) #[] #[]] w fun e w'=>e=.returned (.bool true)/\∃n,w'=w.drewN n:=by
 obtain rfl:na=nb:=by rw[<-hna,<-hnb,hX.len,hY.len]
 have hXL:X.length=na:=by rw[<-hX.len];exact hna
 have HX:=Zy hX;have HY:=Zy hY;have HA:=Zy hna;have HB:=Zy hnb;have Lv:=Zy hXL;clear hX hY hna hnb hXL;go_enter Tryz.func93,Tryz.ntmps93
 go_wp2
 go_loopw [17] (fun i wr=>∃k:Nat,i=.int .i64 (k:Int)/\k<=na/\∃n,wr=w.drewN n) (fun i _=>na-(intOf i).toNat)
 case atStart=>exact⟨0,rfl,Z0 _,0,rfl⟩
 case round=>
  obtain⟨k,rfl,hk,n,rfl⟩:=hrel;by_cases hlt:k<na
  ·obtain⟨b1,o1,rfl,hc1⟩:=ha.at (k:=k) (by rw[HA.out];exact hlt)
   obtain⟨b2,o2,rfl,hc2⟩:=hb.at (k:=k) (by rw[HB.out];exact hlt);have e1:=hc1 k (by rw[HA.out];exact hlt);have e2:=hc2 k (by rw[HB.out];exact hlt);obtain⟨xa,xn,xc,x1,x2,x3,x4,x5,x6⟩:=HX.out.sl k ZY;obtain⟨ya,yn,yc,y1,y2,y3,y4,y5,y6⟩:=HY.out.sl k ZY;rw[x1]at e1;rw[y1]at e2;have X2:=Zy x2;have Y2:=Zy y2;have hxx:xn<=9223372036854775807:=QQ;clear hc1 hc2 x1 x2 x6 y1 y2 y6 ha hb;go_wp2_with ((go_at_call 23);refine(VH xa ya xn yn xc yc (rx X k) _ (x5.drewN n) (y5.drewN n) X2.out Y2.out hxx).mono ?_;rintro e w2 ⟨rfl,nq,rfl⟩)
   exact QFp
  ·go_wp2
   go_ret;exact⟨rfl,n,rfl⟩
theorem TP(a b:Option Addr)(na nb ca cb:Nat)(us vs:List Value)(X:List (List Int))(w:World)(ha:J7 w a us)(hb:J7 w b vs)(hna:us.length=na)(hnb:vs.length=nb)(hX:Lists w us X)(hY:Lists w vs X)(hx:na<=9223372036854775807):
  Calls Tryz.prog 51 #[.slice a na ca,.slice b nb cb] w fun e w'=>e=.returned (.bool true)/\∃n,w'=w.drewN n:=by
 have H:=Zy (QQb a b na nb ca cb us vs X w ha hb hna hnb hX hY hx);clear hX hY ha hb hna hnb;go_enter Tryz.func51,Tryz.ntmps51
 go_wp2_with ((go_at_call 93);refine H.out.mono ?_;rintro e w2 ⟨rfl,nq,rfl⟩)
 go_ret;exact⟨rfl,nq,rfl⟩
theorem QQ9{S:SS}{v r lv:Value}{rr:List Value}{n:Nat}{wh:Int}(hr:rr.length=27)(k:Nat):vx (zC S v r lv rr n wh) (37+k)=vx (mF S r lv n wh) k:=by
 unfold vx zC;have h:(EO S v++rr).length=37:=QBI;rw[Zf,XY QQ,h,Nat.add_sub_cancel_left,<-Zf]
theorem vk{ops:Array Oper}{rest:List Oper}{op:Oper}{a:Act}{w:World}{Q:Exit->Act->World->Prop}(hw:Region.wanted op (yielded ops a.tmps)=true)(x:Operand)(ho:op.op=.load 36 x)
  (B o:Nat) (hx:a.eval x=.pointer (some ⟨B,o,none⟩)) (vs:List Value) (hB:w.rangeAt B o vs) (hl:vs.length=27)
  (h:wpList Tryz.prog ops Q rest (a.put op.dst (.agg (XP vs))) w):wpList Tryz.prog ops Q (op::rest) a w:=
 wpList_step fun K hK=>by
  rw[if_pos hw];exact wp_load_mid 36 x ho B o hx vs _ hB Ju rfl (by rw[hl];exact Yo) (hK _ _ h)
structure LkB (w:World) (R:Nat) (S:SS) (v r lv:Value) (rr:List Value) (n:Nat) (wh:Int):Prop where
 c0:w.cell? ⟨R,0,none⟩=some v
 c1:w.cell? ⟨R,1,none⟩=some (.int .i64 S.pos)
 c2:w.cell? ⟨R,2,none⟩=some (.int .i64 S.mode)
 c3:w.cell? ⟨R,3,none⟩=some (.int .i64 S.part.a)
 c4:w.cell? ⟨R,4,none⟩=some (.int .i64 S.part.b)
 c5:w.cell? ⟨R,5,none⟩=some (.int .i64 S.part.c)
 c6:w.cell? ⟨R,6,none⟩=some (.int .i64 S.part.d)
 c7:w.cell? ⟨R,7,none⟩=some (.int .i64 S.part.e)
 c8:w.cell? ⟨R,8,none⟩=some (.int .i64 S.fk)
 c9:w.cell? ⟨R,9,none⟩=some (.int .i64 S.fa)
 rg:w.rangeAt R 10 rr
 c37:w.cell? ⟨R,37,none⟩=some (.int .i64 (n:Int))
 c38:w.cell? ⟨R,38,none⟩=some lv
 c39:w.cell? ⟨R,39,none⟩=some (.int .i64 wh)
 c40:w.cell? ⟨R,40,none⟩=some (.bool S.over)
 c41:w.cell? ⟨R,41,none⟩=some r
 c42:w.cell? ⟨R,42,none⟩=some (.int .i64 S.rat)
 eO:w.cell? ⟨R,43,none⟩=some (.int .i64 S.off)
theorem LkB.of{w:World}{R:Nat}{S:SS}{v r lv:Value}{rr:List Value}{n:Nat}{wh:Int}{rs:List Value}(h:Xj w R rs 41)(he:rs=zC S v r lv rr n wh)(hr:rr.length=27):LkB w R S v r lv rr n wh:=by
 subst he;have hl:=KM (S:=S) (v:=v) (r:=r) (lv:=lv) (n:=n) (wh:=wh) hr;have hc:∀k,k<7->w.cell? ⟨R,37+k,none⟩=some (vx (mF S r lv n wh) k):=fun k hk=>by rw[h.cell QQ,QQ9 hr]
 exact {
  c0:=h.cell (i:=0) QQ,c1:=h.cell (i:=1) QQ,c2:=h.cell (i:=2) QQ,c3:=h.cell (i:=3) QQ,c4:=h.cell (i:=4) QQ,c5:=h.cell (i:=5) QQ,c6:=h.cell (i:=6) QQ,c7:=h.cell (i:=7) QQ,c8:=h.cell (i:=8) QQ,c9:=h.cell (i:=9) QQ
  rg:=fun j x hj=>by
   have hlt:j<rr.length:=by
    rcases Z7 j rr.length with h|h
    ·exact h
    ·rw[List.getElem?_eq_none h]at hj;cases hj
   rw[h.cell QQ,bG hr QQ,VY hlt];rw[XJ hlt]at hj;exact hj
  c37:=hc 0 QQ,c38:=hc 1 QQ,c39:=hc 2 QQ,c40:=hc 3 QQ,c41:=hc 4 QQ,c42:=hc 5 QQ,eO:=hc 6 QQ}
theorem Na.below{P:Nat->Prop}{w w':World}{S:SS}{v r lv:Value}{rr:List Value}(h:Na P w S v r lv rr)(hb:Below w.heap.size w w'):Na P w' S v r lv rr:=h.keep (Xv.below P hb) (fun _ h=>h)
theorem Na.MB{P:Nat->Prop}{w:World}{S:SS}{v r lv:Value}{rr:List Value}(h:Na P w S v r lv rr)(hl:S.regs.length=27):yL w rr S.regs:=⟨h.lr,hl,fun i hi=>(h.rg i hi).sl⟩
theorem iO(P P2:Nat->Prop)(S:SS)(v r lv v2 r2 Ov:Value)(rr sj rs rs2:List Value)(n:Nat)(wh:Int)(w:World)(h:Na P w S v r lv rr)(g:Na P2 w S v2 r2 Ov sj)(he:rs=zC S v r lv rr n wh)(ge:rs2=zC S v2 r2 Ov sj n wh)(hl:S.regs.length=27):
  Calls Tryz.prog 19 #[.agg (XP rs),.agg (XP rs2)] w fun e w'=>e=.returned (.bool true)/\Below w.heap.size w w':=by
 have hB0:=(Xj.new w rs 41).alloc (.cells (XP rs2) 41);have hB1:=Xj.new (w.alloc (.cells (XP rs) 41)) rs2 41;rw[Zv]at hB1;have hacc:=Zn w (.cells (XP rs) 41) (.cells (XP rs2) 41);have h1:=h.below hacc;have g1:=g.below hacc;have HE:=Zy he;have GE:=Zy ge;clear h g he ge;go_enter Tryz.func19,Tryz.ntmps19
 go_upto_region 1 with fail
 change Code.wp _ _ _ _ ((w.alloc (.cells (XP rs) 41)).alloc (.cells (XP rs2) 41));generalize(w.alloc (.cells (XP rs) 41)).alloc (.cells (XP rs2) 41)=w1 at *;obtain⟨x0,x1,x2,x3,x4,x5,x6,x7,x8,x9,xg,LY,x38,x39,LM,Fe,Fb,x43⟩:=LkB.of hB0 HE.out h1.lr;obtain⟨y0,y1,y2,y3,y4,y5,y6,y7,y8,y9,yg,y37,y38,y39,y40,rz,rq,y43⟩:=LkB.of hB1 GE.out g1.lr;obtain⟨a1,n1,c1,rfl⟩:=h1.t.form;obtain⟨a2,n2,c2,rfl⟩:=g1.t.form;obtain⟨a3,n3,c3,rfl⟩:=h1.ro.form;obtain⟨a4,n4,c4,rfl⟩:=g1.ro.form;obtain⟨us,⟨a5,n5,c5,rfl,u1,u2,u3,u4,u5⟩,uls⟩:=h1.ls;obtain⟨vs,⟨a6,n6,c6,rfl,t1,t2,t3,t4,t5⟩,vls⟩:=g1.ls;have H1:=Zy h1;have G1:=Zy g1;have S1:=Zy (fun(w':World) (hb:Below w1.heap.size w1 w')=>iP a1 a2 n1 n2 c1 c2 S.text S.pos w' (h1.t.ints.below hb) (g1.t.ints.below hb) h1.t.get.1 g1.t.get.1 (by have:=h1.t.get.2;omega));have S2:=Zy (fun(w':World) (hb:Below w1.heap.size w1 w')=>L6 a3 a4 n3 n4 c3 c4 S.row S.rat w' (h1.ro.ints.below hb) (g1.ro.ints.below hb) h1.ro.get.1 g1.ro.get.1 (by have:=h1.ro.get.2;omega));have S3:=Zy (fun(w':World) (hb:Below w1.heap.size w1 w')=>iN rr sj S.regs w' ((h1.MB hl).below hb) ((g1.MB hl).below hb));have S4:=Zy (fun(w':World) (hb:Below w1.heap.size w1 w')=>TP a5 a6 n5 n6 c5 c6 us vs S.Z8.ls w' (u4.below hb) (t4.below hb) u1 t1 (uls.lists.below hb) (vls.lists.below hb) QQ);clear h1 g1 u1 u2 u3 u4 u5 t1 t2 t3 t4 t5 uls vls hB0 hB1;have hlr:=H1.out.lr;have glr:=G1.out.lr;have hb0:=ZH w1.heap.size w1;have Bl:w.heap.size<w1.heap.size:=XU x0;have hal:=Ju;have hz:(Tryz.prog.info? 36).map (·.size)=some rr.length:=by rw[hlr];exact Yo
 have hz2:(Tryz.prog.info? 36).map (·.size)=some sj.length:=by rw[glr];exact Yo
 have hlt1:w.heap.size+1<w1.heap.size:=XU y0;go_wp2_with (first|(go_at_call 36;refine(S1.out _ hb0).mono ?_;rintro e w2 ⟨rfl,hb2⟩;have p38:=(hb2.cell Bl).trans x38;have p38':=(hb2.cell hlt1).trans y38;have p41:=(hb2.cell Bl).trans Fe;have Qy5:=(hb2.cell hlt1).trans rz;have p42:=(hb2.cell Bl).trans Fb;have Qy4:=(hb2.cell hlt1).trans rq;have hx2:w2.rangeAt w.heap.size 10 rr:=(fun j v hj=>(hb2.cell Bl).trans (xg j v hj));have hy2:w2.rangeAt (w.heap.size+1) 10 sj:=(fun j v hj=>(hb2.cell hlt1).trans (yg j v hj)))|((with_reducible show wpList _ _ _ (⟨_,Op.load 36 _,_,_,_,_⟩::_) _ _);(first|refine vk QAQ _ rfl w.heap.size 10 rfl rr hx2 hlr ?_|refine vk QAQ _ rfl (w.heap.size+1) 10 rfl sj hy2 glr ?_))|(go_at_call 50;refine(S3.out _ hb2).mono ?_;rintro e w3 ⟨rfl,hb3⟩;have Bt:=hb2.trans (hb3.mono hb2.size);have q38:=(Bt.cell Bl).trans x38;have Qy0:=(Bt.cell hlt1).trans y38;have q41:=(Bt.cell Bl).trans Fe;have Qyt:=(Bt.cell hlt1).trans rz;have q42:=(Bt.cell Bl).trans Fb;have Qys:=(Bt.cell hlt1).trans rq)|(go_at_call 51;refine(S4.out _ Bt).mono ?_;rintro e w4 ⟨rfl,nd,hnd⟩;have jM:Below w1.heap.size w1 w4:=(by rw[hnd];exact below_drewN Bt nd);clear hnd;have s41:=(jM.cell Bl).trans Fe;have Qyo:=(jM.cell hlt1).trans rz;have s42:=(jM.cell Bl).trans Fb;have Qyn:=(jM.cell hlt1).trans rq)|(go_at_call 33;refine(S2.out _ jM).mono ?_;rintro e w5 ⟨rfl,hb5⟩))
 go_ret;exact⟨rfl,hacc.trans ((jM.trans (hb5.mono jM.size)).mono hacc.size)⟩
theorem Co{S:SS}{v r lv:Value}{rr:List Value}{n:Nat}{wh:Int}(hr:rr.length=27)(w:World):(Instr.field 41 (.agg (XP (zC S v r lv rr n wh))) 8).run Tryz.prog w=.ok (.bool S.over) w:=by
 exact QEV
def Tu:ByteArray:=⟨#[4]⟩
theorem N7:Jf [Tu]=1:=QX
theorem aY:(K4 (⟨#[]⟩++Tu)).out=[4]:=QX
theorem Tf:Tu.size=1:=QX
theorem Rp(W:World)(most width:Int):((SS.new most width).feed W Tu).2=0/\((SS.new most width).feed W Tu).1.over=true/\((SS.new most width).feed W Tu).1.told=[(4,[])]:=by
 have hp:(SS.new most width).pend=⟨#[]⟩:=rfl;have ho:(SS.new most width).over=false:=rfl;have hm:(SS.new most width).mode=1:=rfl;have ht:(SS.new most width).text=[]:=rfl;have hd:(SS.new most width).told=[]:=rfl;generalize SS.new most width=S at *;unfold SS.feed;rw[if_neg (by rw[ho];decide),if_neg (by rw[Tf];omega),hp,aY];have hk:∀pd:ByteArray,(({S with pend:=pd,told:=[],YC:=[]}:SS).keys W [4]).over=true/\(({S with pend:=pd,told:=[],YC:=[]}:SS).keys W [4]).told=[(4,[])]:=fun pd=>by
  obtain⟨S1,hS1⟩:∃S1:SS,S1={S with pend:=pd,told:=[],YC:=[]}:=⟨_,rfl⟩;have ho1:S1.over=false:=by rw[hS1];exact ho
  have hm1:S1.mode=1:=by rw[hS1];exact hm
  have ht1:S1.text=[]:=by rw[hS1];exact ht
  have hd1:S1.told=[]:=by rw[hS1]
  rw[<-hS1];clear hS1;have e1:S1.keys W [4]=(S1.key W 4).show:=by
   show S1.step W 4=_;unfold SS.step;rw[if_neg (by rw[ho1];decide)]
  have e2:S1.key W 4={S1.tell 4 []with over:=true}:=by
   unfold SS.key;rw[if_neg QZ,if_neg (by rw[hm1];decide),if_neg QZ,if_pos rfl,if_neg (by rw[ht1];decide)]
  rw[e1,e2];refine⟨rfl,?_⟩;show S1.told++[(4,[])]=_;rw[hd1];rfl
 exact⟨rfl,(hk _).1,(hk _).2⟩
theorem oV(W:World)(most width:Int){S:SS}{l:List (Int×List Int)}{m:List Int}(h:Un W [Tu] (SS.new most width) [] []=some (S,l,m)):S.over=true/\l=[(4,[])]:=by
 obtain⟨h1,h2,h3⟩:=Rp W most width;rw[IE W Tu _ [] [] h1,h3]at h;simp only[ZM,Yg]at h;obtain⟨rfl,rfl,-⟩:=h;exact⟨h2,rfl⟩
theorem DK(W:World)(S:SS)(b:ByteArray)(h:S.over=true):S.feed W b=(S,6):=by unfold SS.feed;rw[if_pos h]
theorem oU{l:List (Int×List Int)}{ov:Bool}(h:(ov=false/\∀e∈l,e.1≠4)\/(ov=true/\∃k,l=k++[(4,[])]/\∀e∈k,e.1≠4)){j:Nat}(hj:j<l.length):(l[j].1=4/\ov=true/\j+1=l.length)\/(l[j].1≠4/\(ov=true->j+1<l.length)):=by
 rcases h with⟨h1,h2⟩|⟨h1,k,rfl,h2⟩
 ·exact .inr ⟨h2 _ (YK hj),fun e=>by rw[h1]at e;cases e⟩
 ·have hlen:(k++[((4:Int),([]:List Int))]).length=k.length+1:=by simp
  by_cases hk:j<k.length
  ·rw[List.getElem_append_left hk]
   exact .inr ⟨h2 _ (YK hk),fun _=>QQ⟩
  ·obtain rfl:j=k.length:=by omega
   rw[List.getElem_append_right (ZB _)];simp only[Nat.sub_self,List.getElem_cons_zero];exact .inl ⟨trivial,h1,QQ⟩
theorem Dm(a:Option Addr)(n c:Nat)(T:List ByteArray)(most width:Int)(more:ByteArray)(w:World)(hT:Strs w a T)(hn:T.length=n)(hN:Jf T+n<=1048576):
  Calls Tryz.prog 4 #[.int .i64 most,.int .i64 width,.slice a n c,.string more] w fun e w'=>e=.returned (.bool true)/\Below w.heap.size w w':=by
 have HW:=Zy (yh w);have HFD:=Zy (fun(w1:World) (hb:Below w.heap.size w w1)=>vg w most width a n c (Jf T) T w1 (hT.below hb) hn (ZB _) QQ QQ);clear hT hn hN;go_enter Tryz.func4,Tryz.ntmps4
 go_wp2_with fail
 refine HW.out.mono ?_;rintro e w1 ⟨rfl,hb1⟩;have hba:=hb1.trans ((ZT w1 (.cells #[.string Tu] 9)).mono hb1.size);have HF4:=Zy (vg w most width (some ⟨w1.heap.size,0,none⟩) 1 1 1 [Tu] _ (GN w1 Tu) rfl (by rw[N7];omega) QQ QQ);have HBA:=Zy hba;clear hb1 hba;go_wp2_with fail
 refine HF4.out.mono ?_;rintro e w2 (⟨hb2,rfl,-⟩|⟨hg,B,G,S,l,m,a1,n1,c1,us,a2,n2,c2,hf,rfl,hL,hI,p1,p4,hev,s1,s4,nX,hwd⟩)
 ·go_wp2
  go_ret;exact⟨rfl,HBA.out.trans (hb2.mono HBA.out.size)⟩
 obtain⟨hov,hl⟩:=oV w most width hf;rw[hl]at hev;obtain rfl:n1=1:=by rw[<-p1,hev.1];rfl
 obtain⟨b7,o7,rfl,dV⟩:=p4.at (k:=0) QQ;obtain⟨y0,-⟩:=dV 0 QQ;obtain⟨z0,-⟩:=hev.2 0 QJ;rw[z0]at y0;simp only[List.getElem_cons_zero,Nat.zero_mul,X8]at y0;obtain⟨K,hK,hKl,-,-⟩:=hI.inv;have hKq:K<=268435456:=by rw[N7]at hKl;omega
 have Ni:=Zy (VR _ w2 B K _ G hL hK);have HK:=Zy hK;have HP:=Zy hI.pend;have HL:=Zy hL;have HOV:=Zy hov;clear hf hL hI p1 p4 hev s1 s4 nX hwd hg hK hKl hl hov z0 dV HF4;go_wp2_with fail
 refine Ni.out.mono ?_;intro e w5 h5;obtain⟨rs,v,r,lv,rr,rfl,hrs,KF,hb5⟩:=h5.hid;have hlen:rs.length=44:=by rw[hrs];exact KM KF.lr
 have hone:∀x∈rs,x.oneCell'=true:=by rw[hrs];exact KF.one
 have qO:=(Jp (w:=w5) rfl).setCells 0 rs;rw[UH (by rw[Uy,hlen])]at qO;have Jv:Below w5.heap.size w5 ((w5.alloc Xc).setCells w5.heap.size 0 rs):=below_setCells (ZB _) rs 0 (ZT w5 Xc);have hL9:=(HL.out.below hb5).below Jv;have BK:=KF.keep (Xv.below _ Jv) (fun _ h=>h);have HFM:=Zy (EM w _ _ B K S G more hL9 HK.out HP.out hKq);have HR9:=Zy BK;have HZ9:=Zy qO;have Cq:=Zy hrs;have HLEN:=Zy hlen;have SB:=Zy hone;have HB5:=Zy hb5;have HB9:=Zy Jv;clear h5 hrs KF hb5 qO Jv hlen hone hL9 BK y0;go_upto_region 9 with((with_reducible show wpList _ _ _ (⟨none,Op.store 41 _ _,_,_,_,_⟩::_) _ _);refine WS (w:=w5.alloc Xc) (B:=w5.heap.size) (Jp rfl) rfl _ _ rfl rfl rs rfl HLEN.out SB.out ?_;generalize(w5.alloc Xc).setCells w5.heap.size 0 rs=w9 at *)
 go_wp2_with fail
 refine HFM.out.mono ?_;rintro e qB ⟨VD,hst,⟨h0,-⟩|⟨-,rfl⟩⟩
 ·rw[DK w S more HOV.out]at h0
  exact absurd (show(6:Int)=0 from h0) QZ
 rw[DK w S more HOV.out]at VD ⊢;dsimp only;have hlt:=HL.out.lt;have hsz:w2.heap.size<=w9.heap.size:=Zh HB5.out.size HB9.out.size;have hkp:∀k,k<w9.heap.size->w2.heap.size<=k->qB.heap[k]? =w9.heap[k]?:=fun k h1 h2=>hst.block k h1 (fun e=>by have:=hlt k e;omega)
 have IZ:Xj qB w5.heap.size rs 41:=Za.moved HZ9.out (hkp _ HZ9.out.lt HB5.out.size);have RL:=HR9.out.keep (w':=qB) (Q:=fun k=>w2.heap.size<=k) (fun p x hp hc=>by
  unfold World.cell? at *;rw[hkp p.block (XU hc) hp];exact hc) (fun _ h=>h)
 have QUx:=Zy (fun(w':World) (hb:Below qB.heap.size qB w')=>VR _ w' B K S _ (VD.below hb) HK.out);have QXs:=Zy (show Below w.heap.size w qB from HBA.out.trans (VD.YX.mono HBA.out.size));have QUZ:=Zy RL;obtain⟨d,hu,hd⟩:=zb;have hz:(Tryz.prog.info? 41).map (·.size)=some rs.length:=by rw[HLEN.out];exact WY
 have hrg:qB.drew.rangeAt w5.heap.size 0 rs:=VN IZ;have JN:Below qB.heap.size qB qB.drew:=(ZH _ _).drew;have iw0:IntKind.i64.wrap 0=0:=QZ;have QZe:w5.heap.size<qB.heap.size:=IZ.lt;clear VD hst hlt hsz hkp IZ RL;go_upto_region 10 with fail
 go_cut [68] (fun x wx=>x=.bool false/\Below qB.heap.size qB wx)
 case first=>
  refine wp_region_held_drew (S:=(fun w'=>w'.rangeAt w5.heap.size 0 rs/\Below qB.heap.size qB w')) QX ⟨hrg,JN⟩ ?_;intro hSd;refine ZP 0 ⟨some 52,_,_,_,_,_⟩ ((.int .i64 6)) ?_;simp only[Act.put,Zj,Zk,Zu];refine ZP 1 ⟨some 53,_,_,_,_,_⟩ ((.bool false)) ?_;simp only[Act.put,Zj,Zk,Zu];refine ZP 2 ⟨some 54,_,_,_,_,_⟩ ((.bool false)) ?_;simp only[Act.put,Zj,Zk,Zu];refine ZP 3 ⟨some 55,_,_,_,_,_⟩ ((.slice none 0 0)) ?_;simp only[Act.put,Zj,Zk,Zu];refine ZP 4 ⟨some 56,_,_,_,_,_⟩ ((.int .i64 0)) ?_;simp only[Act.put,Zj,Zk,Zu];refine ZP 5 ⟨some 57,_,_,_,_,_⟩ ((.slice none 0 0)) ?_;simp only[Act.put,Zj,Zk,Zu];refine ZP 6 ⟨some 58,_,_,_,_,_⟩ ((.int .i64 0)) ?_;simp only[Act.put,Zj,Zk,Zu];refine ZP 7 ⟨some 59,_,_,_,_,_⟩ ((.int .i64 0)) ?_;simp only[Act.put,Zj,Zk,Zu];refine ZP 8 ⟨some 60,_,_,_,_,_⟩ ((.bool false)) ?_;simp only[Act.put,Zj,Zk,Zu];refine ZP 9 ⟨some 61,_,_,_,_,_⟩ ((.bool false)) ?_;simp only[Act.put,Zj,Zk,Zu];refine ZP 10 ⟨some 62,_,_,_,_,_⟩ ((.bool false)) ?_;simp only[Act.put,Zj,Zk,Zu];refine ZP 11 ⟨some 63,_,_,_,_,_⟩ ((.pointer (some ⟨B,0,none⟩))) ?_;simp only[Act.put,Zj,Zk,Zu];refine wpAnyH_take (i:=13) (oi:=⟨some 65,_,_,_,_,_⟩) (v:=(.agg (XP rs))) rfl QX QX QX (fun _ _ _ h=>h) (yieldsIf_load_mid QAQ 41 _ rfl w5.heap.size 0 rfl rs d (fun w h=>h.1) hu hd hz) QH ?_;simp only[Act.put,Zj,Zk,Zu];refine Zl (rs:=[12]) QX QJ ?_;refine ZO (o:=⟨some 64,_,_,_,_,_⟩) rfl (fun K hK=>?_) Zg;go_simp;refine(QUx.out _ JN).mono ?_;intro e w12 h12;obtain⟨us,v2,r2,Ov,sj,rfl,Sn,QKk,dz⟩:=h12.hid;have jN:=JN.trans (dz.mono JN.size);have sw:w12.rangeAt w5.heap.size 0 rs:=fun q x hx=>(dz.cell QZe).trans (hrg q x hx)
  dsimp only;refine hK.out _ _ ⟨sw,jN⟩ (fun hHeld=>?_);clear hK K;refine Zl (rs:=[14]) QX QJ ?_;refine ZO (o:=⟨some 66,_,_,_,_,_⟩) rfl (fun K hK=>?_) Zg;have HTL:=Zy (iO _ _ S v2 r2 Ov v r lv sj rr us rs _ _ _ QKk (QUZ.out.below jN) Sn Cq.out HK.out.rl);clear Sn QKk h12 dz;go_simp;refine HTL.out.mono ?_;rintro e w14 ⟨rfl,tY⟩;have jM:=jN.trans (tY.mono jN.size);have QJT:w14.rangeAt w5.heap.size 0 rs:=fun q x hx=>(tY.cell (Zc QZe jN.size)).trans (sw q x hx)
  dsimp only;refine hK.out _ _ ⟨QJT,jM⟩ (fun hHeld=>?_);clear hK K;refine ZP 15 ⟨some 67,_,_,_,_,_⟩ ((.bool false)) ?_;simp only[Act.put,Zj,Zk,Zu];refine ZP 16 ⟨some 68,_,_,_,_,_⟩ ((.bool false)) ?_;simp only[Act.put,Zj,Zk,Zu];refine Ya QX ?_ _;go_wp2;go_meet;exact⟨rfl,jM⟩
 obtain⟨rfl,jM⟩:=hcut;have HBC:=Zy (QXs.out.trans (jM.mono QXs.out.size));clear QUx QUZ hu hd hz hrg JN QZe jM QXs HBA HR9 HZ9 Cq HLEN SB HB5 HB9 HFM Ni HK HP HL HOV hKq iw0;go_wp2_with fail
 refine(HFD.out _ HBC.out).mono ?_;rintro e w20 (⟨QWG,rfl,-⟩|⟨hg,B2,G2,S2,l2,m2,a3,n3,c3,us2,a4,n4,c4,hf2,rfl,hL2,hI2,p1,p4,hev,s1,s4,nX,hwd⟩)
 ·go_wp2
  go_ret;exact⟨rfl,HBC.out.trans (QWG.mono HBC.out.size)⟩
 obtain⟨K2,hK2,-,-,-⟩:=hI2.inv;have QUz:=Zy (fun(w':World) (hb:Below w20.heap.size w20 w')=>VR _ w' B2 K2 S2 G2 (hL2.below hb) hK2);have HEN:=Zy hI2.ends;have hll:l2.length=n3:=by rw[<-hev.1];exact p1
 have Ur:=Zy hll;have HP4:=Zy p4;have pg:=Zy p1;have HEV:=Zy hev;have rZ:=Zy (show Below w.heap.size w w20 from HBC.out.trans (hL2.YX.mono HBC.out.size));clear hf2 hL2 hI2 p1 p4 hev s1 s4 hwd hg hK2 hll HBC;go_wp2
 go_loopw [82,17] (fun x y wr=>∃(j:Nat) (b:Int),x=.int .i64 (j:Int)/\y=.int .i64 b/\j<=n3/\(b=0\/b=1)/\(b=1↔(S2.over=true/\j=n3))/\Below w20.heap.size w20 wr) (fun x _ _=>n3-(intOf x).toNat)
 case atStart=>
  refine⟨0,0,rfl,rfl,Z0 _,.inl rfl,⟨fun h=>absurd h QZ,fun h=>?_⟩,ZH _ _⟩;rcases HEN.out with⟨h1,-⟩|⟨-,k,h2,-⟩
  ·rw[h1]at h;cases h.1
  ·have:=Ur.out
   rw[h2]at this;simp at this;omega
 case round=>
  obtain⟨j,b,rfl,rfl,hj,dB,hb1,hbel⟩:=hrel;have HB1:=Zy hb1;have HBE:=Zy hbel;clear hb1;by_cases hlt:j<n3
  ·as_aux_lemma=>
   obtain rfl:b=0:=by
    rcases dB with h|h
    ·exact h
    ·have:=(HB1.out.1 h).2;omega
   have hjl:j<l2.length:=QAj;have hju:j<us2.length:=by rw[pg.out];exact hlt
   obtain⟨b1,o1,rfl,hc⟩:=HP4.out.at hju;obtain⟨c0,c1⟩:=hc j hju;obtain⟨e0,e1⟩:=HEV.out.2 j hjl;obtain⟨xa,xn,xc,e2⟩:=e1.form;rw[e0]at c0;rw[e2]at c1;have d0:=(hbel.cell (XU c0)).trans c0;have d1:=(hbel.cell (XU c1)).trans c1;have d2:wr.cell? ⟨b1,o1+j*2+1,none⟩=some (.slice xa xn xc):=d1;have i0:(0:Int)<=(j:Int):=QQ;have i1:(j:Int)<(n3:Int):=QQ;have hbs:=hbel.size;have hE:=oU HEN.out hjl;generalize l2[j].1=kd at *;rw[Ur.out]at hE;clear hc c0 c1 e0 e1 e2 hbel dB hjl hju;rcases hE with⟨rfl,hov,hlast⟩|⟨hk,hov⟩
   ·have hw:IntKind.i64.wrap ((n3:Int)-1)=(j:Int):=by rw[Xh];omega
    have HO:=Zy hov;have HLA:=Zy hlast;clear hov hlast;go_wp2;refine⟨⟨j+1,1,Qk,rfl,QQ,.inr rfl,⟨fun _=>⟨HO.out,HLA.out⟩,fun _=>rfl⟩,?_⟩,Qp⟩;exact HBE.out.trans ((ZT wr _).mono hbs)
   ·have hkb:(kd==4)=false:=by simpa using hk
    have HO:=Zy hov;clear hov hk;go_wp2;refine⟨⟨j+1,0,Qk,rfl,QQ,.inl rfl,⟨fun h=>absurd h QZ,fun h=>by have:=HO.out h.1;omega⟩,?_⟩,Qp⟩;exact HBE.out.trans ((ZT wr _).mono hbs)
  ·as_aux_lemma=>
   obtain rfl:j=n3:=QQ;have QUq:=Zy (QUz.out wr hbel);clear hbel hlt QUz;cases hov:S2.over with
   | true=>
    obtain rfl:b=1:=HB1.out.2 ⟨hov,rfl⟩;have HO:=Zy hov;clear hov dB;go_wp2_with fail
    refine QUq.out.mono ?_;intro e w22 h22;obtain⟨rs9,v9,r9,lv9,rr9,rfl,hrs,hR2,hb2⟩:=h22.hid;have hfl:∀w,(Instr.field 41 (.agg (XP rs9)) 8).run Tryz.prog w=.ok (.bool true) w:=fun w=>by rw[hrs,Co hR2.lr w,HO.out]
    exact QE9
   | false=>
    obtain rfl:b=0:=by
     rcases dB with h|h
     ·exact h
     ·have:=(HB1.out.1 h).1;rw[hov]at this;cases this
    have HO:=Zy hov;clear hov dB;go_wp2_with fail
    refine QUq.out.mono ?_;intro e w22 h22;obtain⟨rs9,v9,r9,lv9,rr9,rfl,hrs,hR2,hb2⟩:=h22.hid;have hfl:∀w,(Instr.field 41 (.agg (XP rs9)) 8).run Tryz.prog w=.ok (.bool false) w:=fun w=>by rw[hrs,Co hR2.lr w,HO.out]
    exact QE9
theorem iF(base B g n c p:Nat)(c0:Int)(xs:List Int)(w:World)(hB:Za w B #[.slice (some ⟨g,0,none⟩) n c,.int .i64 (p:Int)] 39)(hR:UD base w g n c xs)(hbB:base<=B)(hne:g≠B)(hp:p<=n)(hn:n<=120):
  Calls Tryz.prog 65 #[.pointer (some ⟨B,0,none⟩),.int .i64 c0] w (pF base B g n c (YL c0 (xs,p)) w):=by
 obtain⟨c1,c2,f1,f2⟩:=hB.two;have hbg:=hR.lo;have hl:=hR.len;have hbel:∀u,Below base w (w.setCell ⟨B,1,none⟩ u):=fun u=>(ZH _ _).setCell (p:=⟨B,1,none⟩) hbB u
 by_cases e8:c0=8
 ·subst e8
  have HS:=Zy (show YL 8 (xs,p)=(xs,p-1)from rfl);clear hl;by_cases h0:p=0
  ·subst h0
   go_enter Tryz.func65,Tryz.ntmps65
   go_wp2;exact QEq
  ·go_enter Tryz.func65,Tryz.ntmps65
   go_wp2
   ·go_end0
    refine⟨rfl,?_,?_,hbel _⟩
    ·rw[HS.out,show((p-1:Nat):Int)=(p:Int)-1 from QQ];exact hB.set 1 (.int .i64 ((p:Int)-1))
    ·rw[HS.out];exact hR.other hne _
   ·obtain rfl:p=1:=by omega
    exact QEq
 ·by_cases e13:c0=13
  ·subst e13
   have HS:=Zy (show YL 13 (xs,p)=(xs,0)from rfl);clear hl;go_enter Tryz.func65,Tryz.ntmps65
   go_wp2;exact QEq
  ·by_cases e11:c0=11
   ·subst e11
    have HS:=Zy (show YL 11 (xs,p)=(Kb xs p n,p) by rw[<-hl,Ab];rfl);have HL:=Zy hl;clear hl;go_enter Tryz.func65,Tryz.ntmps65
    go_wp2
    go_loopw [4] (fun i wr=>∃j:Nat,i=.int .i64 (j:Int)/\p<=j/\j<=n/\Za wr B #[.slice (some ⟨g,0,none⟩) n c,.int .i64 (p:Int)] 39/\UD base wr g n c (Kb xs p j)/\Below base w wr) (fun i _=>n-(intOf i).toNat)
    case atStart=>exact⟨p,rfl,QQ,hp,hB,by rw[II _ _ (by rw[HL.out];exact hp)];exact hR,ZH _ _⟩
    case round=>
     clear c1 c2 f1 f2 hB hR hbel;obtain⟨j,rfl,hj1,hj2,hB,hR,hbel⟩:=hrel;obtain⟨c1,c2,f1,f2⟩:=hB.two;by_cases hlt:j<n
     ·have d1:=hR.cell hlt
      have d2:=hR.free j;have i1:(j:Int)<(n:Int):=QQ;go_wp2;go_roundw
      case rel=>
       refine⟨j+1,Qk,QQ,QQ,hB.other (Ne.symm hne) _,?_,hbel.setCell (p:=⟨g,j,none⟩) hbg _⟩;have:=hR.set j 32
       rwa[IL _ _ _ hj1 QE]at this
      case measure=>simp[intOf];omega
     ·obtain rfl:j=n:=by omega
      go_wp2
      go_end0
      refine⟨rfl,?_,?_,hbel⟩
      ·rw[HS.out];exact hB
      ·rw[HS.out];exact hR
   ·by_cases hw:32<=c0/\c0≠127/\p<n
    ·obtain⟨k1,k2,k3⟩:=hw
     have HS:=Zy (show YL c0 (xs,p)=(xs.set p c0,p+1) by
      unfold YL;rw[if_neg e8,if_neg e13,if_neg e11,if_pos ⟨k1,k2,by rw[hl];exact k3⟩])
     clear hl;have d1:=hR.cell k3;have d2:=hR.free p;have b1:(c0==8)=false:=by simpa using e8
     have b2:(c0==13)=false:=by simpa using e13
     have b3:(c0==11)=false:=by simpa using e11
     have b4:decide (32<=c0)=true:=by simpa using k1
     have b5:(c0 !=127)=true:=QBB;have b6:decide ((p:Int)<(n:Int))=true:=by simpa using k3
     have i1:(p:Int)<(n:Int):=QQ;have HB2:=hB.other (a:=⟨g,p,none⟩) (Ne.symm hne) (.int .i64 c0);have HR2:=hR.set p c0;obtain⟨y1,y2,z1,z2⟩:=HB2.two;go_enter Tryz.func65,Tryz.ntmps65
     go_wp2
     go_quiet (fail)
     go_wp2
     go_region
     all_goals
      go_wp2
      go_end0
      rw[show(w.drewN (nq+1)).setCell ⟨g,p,none⟩ (.int .i64 c0)=(w.setCell ⟨g,p,none⟩ (.int .i64 c0)).drewN (nq+1)from rfl];refine⟨rfl,?_,?_,?_⟩
      ·rw[HS.out];exact(HB2.drewN _).set 1 (.int .i64 ((p+1:Nat):Int))
      ·rw[HS.out];exact(HR2.drewN _).other hne _
      ·exact(below_drewN ((ZH _ _).setCell (p:=⟨g,p,none⟩) hbg _) _).setCell (p:=⟨B,1,none⟩) hbB _
    ·have HS:=Zy (show YL c0 (xs,p)=(xs,p) by
      unfold YL;rw[if_neg e8,if_neg e13,if_neg e11,if_neg (by rw[hl];exact hw)])
     clear hl;have b1:(c0==8)=false:=by simpa using e8
     have b2:(c0==13)=false:=by simpa using e13
     have b3:(c0==11)=false:=by simpa using e11
     by_cases k1:32<=c0
     ·have b4:decide (32<=c0)=true:=by simpa using k1
      by_cases k2:c0=127
      ·subst k2
       exact QDI
      ·have b5:(c0 !=127)=true:=by simpa using k2
       have b6:decide ((p:Int)<(n:Int))=false:=QY;exact QDI
     ·have b4:decide (32<=c0)=false:=by simpa using k1
      exact QDI
theorem TM(a a2:Option Addr)(n c n2 c2 p:Nat)(xs l:List Int)(w:World)(ha:Ints w a xs)(hn:xs.length=n)(hl:Ints w a2 l)(hn2:l.length=n2)(h22:n2<=9223372036854775807)(he:J9 xs p=0)(h1:2<=n)(h2:n<=120)(h3:p<=n)(h0:a=none->n=0):
  Calls Tryz.prog 31 #[.agg #[.slice a n c,.int .i64 (p:Int)],.slice a2 n2 c2] w (fC n (JD l (xs,p) n2) w):=by
 have HN:=Zy hn;have HN2:=Zy hn2;clear hn hn2;have HE:=Zy he;clear he;have H0:=Zy h0;clear h0;have hb:=Zn w (.cells #[.slice a n c,.int .i64 (p:Int)] 39) (.cells #[.slice none 0 0,.int .i64 0] 39);have hA:=Za.new (w.alloc (.cells #[.slice a n c,.int .i64 (p:Int)] 39)) #[.slice none 0 0,.int .i64 0] 39;have hP:=(Za.new w #[.slice a n c,.int .i64 (p:Int)] 39).alloc (.cells #[.slice none 0 0,.int .i64 0] 39);rw[Zv]at hA;go_enter Tryz.func31,Tryz.ntmps31
 go_wp2_with fail
 refine(ze a n c xs p _ (ha.below hb) HN.out QQ).mono ?_;rintro e w2 ⟨rfl,hb2⟩;rw[HE.out];have hA2:=hA.below hb2 hA.lt;have hP2:=hP.below hb2 hP.lt;have hbel:=ZE hb hb.size hb2;have ha2:=ha.below hbel;have hl2:=hl.below hbel;clear hb hb2 hA hP ha hl;obtain⟨c0,c1,-,-⟩:=hP2.two;have z2:=hP2.lt;go_upto_region 4 with fail
 go_cut [7] (fun v wx=>∃B9 g8 c8,v=.pointer (some ⟨B9,0,none⟩)/\xx w2 wx B9 g8 n c8 p xs/\n<=c8)
 case first=>
  go_region_law (first|(go_simp;go_at_call 43;refine(Zw a n c xs _ (ha2.keep (by intro q u hq;first|exact hq|exact ZL (ZT _ _) _ _ hq)) HN.out QQ H0.out).mono ?_;rintro e w8 ⟨v8,rfl,o8,kY⟩;obtain⟨g8,k8,c8,rfl,m1,m2,m3,m4,m5,m6,m7⟩:=o8.full QAZ;obtain rfl:n=k8:=QAZ;have k1:w8.cell? ⟨w.heap.size,1,none⟩=some (.int .i64 (p:Int)):=ZL kY _ _ (by first|exact c1|exact ZL (ZT _ _) _ _ c1);have z8:w.heap.size<w8.heap.size:=XU k1;(first|(have hQ:Za w8 w2.heap.size #[.slice none 0 0,.int .i64 0] 39:=((Za.new w2 #[.slice none 0 0,.int .i64 0] 39).drew).below kY (by show _<(w2.alloc _).heap.size;rw[Zv];exact ZF _);obtain⟨q0,q1,q2,q3⟩:=hQ.two)|skip)))
  all_goals
   first
   | (
    have hS:=xx.late (p:=p) (show Own 3 w2.heap.size w8 (.slice (some ⟨g8,0,none⟩) n c8) xs from o8) (show Below w2.heap.size w2 w8 from⟨kY.os,kY.tape,kY.output,kY.size,kY.block⟩) m6;go_wp2;go_meet;exact⟨_,_,_,rfl,hS,m3⟩)
   | (
    have hS:=xx.early (p:=p) o8 kY hQ;go_wp2;go_meet;exact⟨_,_,_,rfl,hS,m3⟩)
 case rest=>
  obtain⟨B9,g8,c8,rfl,hS,hn8⟩:=hcut;have HS:=Zy hS;have Wq:=hA2.below hS.YX (by have:=hA2.lt;omega);have Qjw:=hS.blk.lt;have nZ:w.heap.size+1≠B9:=by have:=hA2.lt;have:=hS.lo;omega
  have Jv:=ZE hbel hbel.size hS.YX;have hl9:=hl2.below hS.YX;have QWx:=hS.lo;have hsz2:=hbel.size;have hlt2:=hA2.lt;have hg9:=hS.row.lo;have hne:=hS.ne;clear hS;go_wp2
  go_loopw [24] (fun i wr=>∃k:Nat,i=.int .i64 (k:Int)/\k<=n2/\Za wr B9 #[.slice (some ⟨g8,0,none⟩) n c8,.int .i64 ((JD l (xs,p) k).2:Int)] 39/\UD w2.heap.size wr g8 n c8 (JD l (xs,p) k).1/\Below w2.heap.size wc wr) (fun i _=>n2-(intOf i).toNat)
  case atStart=>exact⟨0,rfl,QQ,HS.out.blk,HS.out.row,ZH _ _⟩
  case round=>
   obtain⟨k,rfl,hk,hB,hR,hbr⟩:=hrel;have hlw:Below w2.heap.size w2 wr:=HS.out.YX.trans hbr;have hpk:(JD l (xs,p) k).2<=n:=by
    have:=(GI l (xs,p) k (by have:=HN.out;show p<=xs.length;omega)).2;have hh:=HN.out;rw[show(xs,p).1.length=n from hh]at this;exact this
   by_cases hlt:k<n2
   ·obtain⟨b1,o1,rfl,hc0⟩:=hl2.at (k:=k) (by rw[HN2.out];exact hlt)
    have ck:wr.cell? ⟨b1,o1+k,none⟩=some (.int .i64 (ix l k)):=by
     have:=hc0 k (by rw[HN2.out];exact hlt);rw[hlw.cell (XU this)];exact this
    have i1:(k:Int)<(n2:Int):=QQ;clear hc0;go_wp2_with fail
    refine(iF w2.heap.size B9 g8 n c8 (JD l (xs,p) k).2 (ix l k) (JD l (xs,p) k).1 wr hB hR QWx hne hpk h2).mono ?_;rintro e w7 ⟨rfl,kL,qx,qz⟩;go_wp2;go_roundw
    case rel=>exact⟨k+1,Qk,QQ,kL,qx,hbr.trans qz⟩
    case measure=>simp[intOf];omega
   ·obtain rfl:n2=k:=by omega
    obtain⟨y0,y1,-,-⟩:=hB.two;have hAr:=Wq.below hbr hlt2;obtain⟨d0,d1,f0,f1⟩:=hAr.two;go_wp2;have hG:=((hAr.set 0 (.slice (some ⟨g8,0,none⟩) n c8)).set 1 (.int .i64 ((JD l (xs,p) n2).2:Int)));obtain⟨x0,x1,-,-⟩:=Za.two hG;refine ZC (v:=.tuple #[.agg #[.slice (some ⟨g8,0,none⟩) n c8,.int .i64 ((JD l (xs,p) n2).2:Int)],.int .i64 0]) (by simp[results,Tryz.results31,go_sem,x0,x1]) rfl ?_;refine⟨g8,c8,rfl,((hR.other (by show g8≠w.heap.size+1;omega) _).other (by show g8≠w.heap.size+1;omega) _).ints,?_⟩;exact(((ZE hbel hbel.size hlw)).setCell (p:=⟨w.heap.size+1,0,none⟩) (ZA _) _).setCell (p:=⟨w.heap.size+1,1,none⟩) (ZA _) _
structure FD (S:SS):Prop where
 row:S.row=KP S.text S.off S.width
 rat:S.rat=S.pos-S.off
 off:XE S.pos S.off S.width=S.off
theorem FD.new{most width:Int}(h:2<=width):FD (SS.new most width):=by
 refine⟨?_,rfl,?_⟩
 ·show List.replicate width.toNat 32=KP [] 0 width
  unfold KP;apply List.ext_getElem
  ·simp
  ·intro i h1 h2
   simp
 ·show XE 0 0 width=0
  unfold XE;rw[if_neg QQ,if_neg QQ]
theorem FD.show{S:SS}(h:2<=S.width):FD S.show:=⟨rfl,rfl,xM S.pos S.off S.width h⟩
theorem FD.step{W:World}{S:SS}{K:Nat}(h:FD S)(hI:XW K S)(k:Int):FD (S.step W k):=by
 unfold SS.step;by_cases ho:S.over=true
 ·rw[if_pos ho];exact h
 ·rw[if_neg ho];exact FD.show (hI.key (W:=W) k).wd.1
theorem FD.keys{W:World}:∀(l:List Int) {S:SS} {K:Nat},FD S->XW K S->FD (S.keys W l)
 | [],S,K,h,hI=>h
 | k::l,S,K,h,hI=>FD.keys l (h.step hI k) (hI.step (W:=W) k)
theorem FD.feed{W:World}{S:SS}{K:Nat}(h:FD S)(hI:XW K S)(b:ByteArray)(he:(S.feed W b).2=0):FD (S.feed W b).1:=by
 obtain⟨-,-,e⟩:=jR he;rw[e];exact FD.keys (K:=K) _ ⟨h.row,h.rat,h.off⟩ {hI with}
theorem Od{W:World}{N:Nat}{most:Int}:∀(T:List ByteArray) {used:Nat} {S:SS} {l:List (Int×List Int)} {m:List Int} {S':SS} {l':List (Int×List Int)} {m':List Int},zD N used most S l m->FD S->used+Jf T<=N->Un W T S l m=some (S',l',m')->FD S'
 | [],used,S,l,m,S',l',m',h,hs,hN,e=>by
  simp only[Un,ZM,Yg]at e;obtain⟨rfl,rfl,rfl⟩:=e;exact hs
 | b::T,used,S,l,m,S',l',m',h,hs,hN,e=>by
  have hb:Jf (b::T)=b.size+Jf T:=rfl;rw[hb]at hN;unfold Un at e;by_cases hz:(S.feed W b).2=0
  ·rw[if_pos hz]at e
   obtain⟨K,hK,-⟩:=h.inv;exact Od T (h.step (W:=W) b QQ hz) (hs.feed hK b hz) QQ e
  ·rw[if_neg hz]at e;cases e
theorem GD(a:Option Addr)(n c:Nat)(T:List ByteArray)(most width:Int)(w:World)(hT:Strs w a T)(hn:T.length=n)(hN:Jf T+n<=1048576):
  Calls Tryz.prog 8 #[.int .i64 most,.int .i64 width,.slice a n c] w fun e w'=>e=.returned (.bool true)/\Below w.heap.size w w':=by
 have HW:=Zy (yh w);have HFD:=Zy (fun(w1:World) (hb:Below w.heap.size w w1)=>vg w most width a n c (Jf T) T w1 (hT.below hb) hn (ZB _) QQ QQ);clear hT hn;go_enter Tryz.func8,Tryz.ntmps8
 go_wp2_with fail
 refine HW.out.mono ?_;rintro e w1 ⟨rfl,hb1⟩;go_wp2_with fail
 refine(HFD.out _ hb1).mono ?_;rintro e w2 (⟨hb2,rfl,-⟩|⟨hg,B,G,S,l,m,a1,n1,c1,us,a2,n2,c2,hf,rfl,hL,hI,p1,p4,hev,s1,s4,nX,hwd⟩)
 ·go_wp2
  go_ret;exact⟨rfl,hb1.trans (hb2.mono hb1.size)⟩
 obtain⟨K,hK,hKs,-,hmK⟩:=hI.inv;have hn2:n2<=9223372036854775807:=by rw[<-s1];omega
 have hsh:=Od T (zD.new (N:=Jf T) hg) (FD.new (most:=most) hg.2.2.1) QQ hf;have hrow:=hI.row;have hre:=(XW.new (most:=most) (width:=width) hg.1 hg.2.1 hg.2.2.1 hg.2.2.2).re;obtain⟨k,rfl⟩:∃k:Nat,width=(k:Int):=⟨width.toNat,QQ⟩;rw[hwd]at hrow;have QJa:J9 (List.replicate k 32) ((0:Nat):Int)=0:=hre;have hrow':Vg m (List.replicate k 32,0)=(S.row,S.rat.toNat):=hrow;have hk1:2<=k:=QQ;have hk2:k<=120:=QQ;have hr0:((S.rat.toNat:Nat):Int)=S.rat:=by
  have h1:=ym (p:=S.pos) (off:=S.off) (width:=S.width) ⟨hK.p0,by have:=hK.p1;have:=hK.tl;omega⟩ hK.o0 hK.wd.1;rw[hsh.off]at h1;have:=hsh.rat;omega
 have HB2:=Zy (show Below w.heap.size w w2 from hb1.trans (hL.YX.mono hb1.size));have HK:=Zy hK;have pO:=Zy hsh;have pR:=Zy hrow';have HRE:=Zy QJa;have Ja:=Zy hr0;have HWD:=Zy hwd;have HL:=Zy hL;have HS4:=Zy s4;have BU:=Zy s1;clear hf hL hI p1 p4 hev s1 s4 nX hwd hg hK hKs hmK hsh hrow hre QJa hrow' hr0 hb1;go_wp2_with fail
 refine(GH k w2 hk1 hk2).mono ?_;rintro e w3 ⟨v3,rfl,o3,hb3⟩;obtain⟨a3,n3,c3,rfl⟩:=o3.form;have hbl:=Za.new w3 #[.slice a3 n3 c3,.int .i64 0] 39;obtain⟨d0,d1,-,-⟩:=hbl.two;have hbA:=ZT w3 (.cells #[.slice a3 n3 c3,.int .i64 0] 39);have QZO:=hb3.trans (hbA.mono hb3.size);have kZ:n3=k:=by have:=o3.get.1;simpa using this.symm
 subst kZ;have QK9:=Zy (TM a3 a2 n3 c3 n2 c2 0 (List.replicate n3 32) m _ (o3.sl.get.2.2.2.1.below hbA) QJ (HS4.out.below QZO) BU.out hn2 HRE.out hk1 hk2 (Z0 _) o3.sl.get.2.2.2.2);have QXr:=Zy QZO;clear o3 hb3 hbl hbA QZO;go_wp2_with fail
 refine QK9.out.mono ?_;rintro e w5 ⟨g5,c5,rfl,h5,hb5⟩;have hrun:JD m (List.replicate n3 32,0) n2=(S.row,S.rat.toNat):=by
  rw[uh m _ n2 (by rw[BU.out];exact ZB _),XV (by rw[BU.out];exact ZB _)];exact pR.out
 rw[hrun]at h5 ⊢;dsimp only at h5 ⊢;rw[Ja.out];have hb6:=ZT w5 (.cells #[.slice (some ⟨g5,0,none⟩) n3 c5,.int .i64 S.rat] 39);obtain⟨e0,e1,-,-⟩:=(Za.new w5 #[.slice (some ⟨g5,0,none⟩) n3 c5,.int .i64 S.rat] 39).two;have h6:=h5.below hb6;have QZN:=QXr.out.trans ((hb5.trans (hb6.mono hb5.size)).mono QXr.out.size);have Ni:=Zy (VR _ _ B K S G (HL.out.below QZN) HK.out);have QXp:=Zy QZN;have H6:=Zy h6;clear d0 d1 hb5 hb6 QZN h5 h6 hrun QK9 QXr;go_wp2_with fail
 refine Ni.out.mono ?_;intro e w7 h7;obtain⟨rs,v,r,lv,rr,rfl,hrs,qx,qz⟩:=h7.hid;obtain⟨a8,n8,c8,rfl⟩:=qx.t.form;obtain⟨a9,n9,c9,rfl⟩:=qx.ro.form;have hlen:rs.length=44:=by rw[hrs];exact KM qx.lr
 have hone:∀x∈rs,x.oneCell'=true:=by rw[hrs];exact qx.one
 have qO:=(Jp (w:=w7) rfl).setCells 0 rs;rw[UH (by rw[Uy,hlen])]at qO;have Jv:Below w7.heap.size w7 ((w7.alloc Xc).setCells w7.heap.size 0 rs):=below_setCells (ZB _) rs 0 (ZT w7 Xc);have hcs:=LkB.of qO hrs qx.lr;have y0:=hcs.c0;have y1:=hcs.c1;have rz:=hcs.c41;have rq:=hcs.c42;have y43:=hcs.eO;have dx:=qz.trans (Jv.mono qz.size);have f0:=(dx.cell (XU e0)).trans e0;have f1:=(dx.cell (XU e1)).trans e1;have HT9:=Zy (qx.t.ints.below Jv);have HR9:=Zy (qx.ro.ints.below Jv);have H9:=Zy (H6.out.below dx);have q1:=qx.t.get.1;have q2:=qx.ro.get.1;have HQ1:=Zy q1;have HQ2:=Zy q2;have hq8:n8<=200:=by have:=HK.out.tl;omega
 have QXo:=Zy (QXp.out.trans (dx.mono QXp.out.size));have HLEN:=Zy hlen;have SB:=Zy hone;clear h7 hrs qx hlen hone qO Jv hcs qz dx q1 q2 H6 QXp Ni e0 e1;go_upto_region 9 with((with_reducible show wpList _ _ _ (⟨none,Op.store 41 _ _,_,_,_,_⟩::_) _ _);refine WS (w:=w7.alloc Xc) (B:=w7.heap.size) (Jp rfl) rfl _ _ rfl rfl rs rfl HLEN.out SB.out ?_;generalize(w7.alloc Xc).setCells w7.heap.size 0 rs=w9 at *)
 have hsc:XE S.pos S.off (n3:Int)=S.off:=by have:=pO.out.off;rw[HWD.out]at this;exact this
 have HVR:=Zy (jl a8 n8 c8 S.text S.pos S.off (n3:Int) w9 HT9.out HQ1.out hq8 HK.out.p0 (by have:=HK.out.p1;have:=HQ1.out;omega) hsc HK.out.o0.1 HK.out.o0.2 QQ QQ);clear hsc;dsimp only[Act.put];go_wp2_with fail
 refine HVR.out.mono ?_;rintro e qB ⟨v10,rfl,LK,JN⟩;obtain⟨a11,n11,c11,rfl⟩:=LK.form;have hwin:KP S.text S.off (n3:Int)=S.row:=by have:=pO.out.row;rw[HWD.out]at this;exact this.symm
 have QJb:S.pos-S.off=S.rat:=pO.out.rat.symm;rw[QJb];rw[hwin]at LK;have Vx:=ZT qB (.cells #[.slice a11 n11 c11,.int .i64 S.rat] 39);obtain⟨g0,g1,-,-⟩:=(Za.new qB #[.slice a11 n11 c11,.int .i64 S.rat] 39).two;have yx:=JN.trans (Vx.mono JN.size);have Fe:=(yx.cell (XU rz)).trans rz;have Fb:=(yx.cell (XU rq)).trans rq;have k0:=(yx.cell (XU f0)).trans f0;have k1:=(yx.cell (XU f1)).trans f1;have QJ3:=LK.sl.get.2.2.2.1.below Vx;have Mm:=LK.sl.get.1;have hrl:S.row.length=n3:=by have:=HK.out.rw_;rw[HWD.out]at this;omega
 have HC1:=Zy (L6 (some ⟨g5,0,none⟩) a9 n3 n9 c5 c9 S.row S.rat _ (H9.out.below yx) (HR9.out.below yx) hrl HQ2.out QQ);have iQ:=Zy (fun(w':World) (hb:Below (qB.alloc (.cells #[.slice a11 n11 c11,.int .i64 S.rat] 39)).heap.size (qB.alloc (.cells #[.slice a11 n11 c11,.int .i64 S.rat] 39)) w')=>L6 (some ⟨g5,0,none⟩) a11 n3 n11 c5 c11 S.row S.rat w' ((H9.out.below yx).below hb) (QJ3.below hb) hrl Mm QQ);have QUA:=Zy (QXo.out.trans (yx.mono QXo.out.size));clear LK JN Vx yx y0 y1 rz rq y43 f0 f1 QJ3 Mm hwin QJb HVR QXo;go_wp2_with fail
 refine HC1.out.mono ?_;rintro e w12 ⟨rfl,jN⟩;have j0:=(jN.cell (XU k0)).trans k0;have j1:=(jN.cell (XU k1)).trans k1;have i0:=(jN.cell (XU g0)).trans g0;have i1:=(jN.cell (XU g1)).trans g1;go_wp2_with fail
 refine(iQ.out _ jN).mono ?_;rintro e w13 ⟨rfl,Bt⟩;go_wp2;go_ret;exact⟨rfl,HB2.out.trans ((QUA.out.trans ((jN.trans (Bt.mono jN.size)).mono QUA.out.size)).mono HB2.out.size)⟩
end Go.Proofs.YtmdcencmiopmmaaGreat
