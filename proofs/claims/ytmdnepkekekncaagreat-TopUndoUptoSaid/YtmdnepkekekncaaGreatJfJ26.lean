/- joined, no condition of its own. -/
import Derived.Test.YtmdnepkekekncaaGreatJfJ20
set_option linter.unusedVariables false
set_option linter.unusedSimpArgs false
set_option maxRecDepth 100000
set_option maxHeartbeats 12000000
namespace Go.Proofs.YtmdnepkekekncaaGreat
def place(n f k:Nat):Nat:=if f+k<n then f+k else f+k-n
theorem yP{n f k:Nat}(hf:f<n)(hk:k<=n):place n f k<n\/n=0:=QD4
theorem je{n f k:Nat}(hf:f<n)(hk:k<=n):(f+k) % n=place n f k:=by
 unfold place;split
 ·exact Nat.mod_eq_of_lt ‹_›
 ·rw[Nat.mod_eq_sub_mod QQ,Nat.mod_eq_of_lt QQ]
end Go.Proofs.YtmdnepkekekncaaGreat
namespace Go.Proofs.YtmdnepkekekncaaGreat
open Go.RowKit
def Uy(w:World)(p g n f s:Nat)(slots:List Value):Prop:=
 Za w p #[.slice (some ⟨g,0,none⟩) n n,.int .i64 f,.int .i64 s] 218/\Za w g slots.toArray 22/\slots.length=n/\p≠g/\MH slots
theorem jL{w:World}{g:Nat}{slots:List Value}{T:TypeId}(h:Za w g slots.toArray T){i:Nat}(hi:i<slots.length):w.cell? ⟨g,i,none⟩=some (vx slots i):=by
 rw[h.cell i];simp[vx,hi]
theorem Iz{w:World}{g:Nat}{slots:List Value}{T:TypeId}(h:Za w g slots.toArray T)(i:Nat)(x:Value):Za (w.setCell ⟨g,i,none⟩ x) g (slots.set i x).toArray T:=by
 have:=h.set i x
 rwa[show slots.toArray.setIfInBounds i x=(slots.set i x).toArray from QJ]at this
def MF(n:Nat)(w:World)(e:Ending)(w':World):Prop:=
 ∃p g,e=.returned (.pointer (some ⟨p,0,none⟩))/\Uy w' p g n 0 0 (List.replicate n (.slice none 0 0))/\w.heap.size<=p/\w.heap.size<=g/\Below w.heap.size w w'
theorem SY(n:Nat):madeCells #[.slice none 0 0] n=(List.replicate n (Value.slice none 0 0)).toArray:=by
 apply Array.toList_inj.1;rw[toList_madeCells_one]
theorem dn(n:Nat):MH (List.replicate n (Value.slice none 0 0)):=fun i hi=>by
 refine⟨none,0,0,?_⟩;rw[VB hi];simp
theorem SQ(n:Nat)(h1:1<=n)(h2:n<=65536)(w:World):Calls Tryz.prog 119 #[.int .i64 (n:Int)] w (MF n w):=by
 have hm0:=run_make_row' (P:=Tryz.prog) 49 22 (.slice none 0 0) 24 Tryz.underlying49 jQ rfl .i64 .i64 n QQ QQ;have fin:∀(w':World),w'=(w.alloc (.cells (madeCells #[.slice none 0 0] n) 22)).alloc (.cells #[.slice (some ⟨w.heap.size,0,none⟩) n n,.int .i64 0,.int .i64 0] 218)->MF n w (.returned (.pointer (some ⟨w.heap.size+1,0,none⟩))) w':=by
  rintro w' rfl;refine⟨w.heap.size+1,w.heap.size,rfl,⟨?_,?_,QJ,QJ,dn n⟩,QJ,ZB _,Zo _ _ _⟩
  ·have:=Za.new (w.alloc (.cells (madeCells #[.slice none 0 0] n) 22)) #[.slice (some ⟨w.heap.size,0,none⟩) n n,.int .i64 0,.int .i64 0] 218
   rwa[Zu]at this
  ·have:=(Za.new w (madeCells #[.slice none 0 0] n) 22).alloc (.cells #[.slice (some ⟨w.heap.size,0,none⟩) n n,.int .i64 0,.int .i64 0] 218)
   rw[<-SY n];exact this
 have FIN:=Zy fin;clear fin;have h3:(n:Int)<=65536:=QQ;have h4:(0:Int)<(n:Int):=QQ;go_enter Tryz.func119,Tryz.ntmps119
 go_wp2
 all_goals
  go_ret;exact FIN.out _ rfl
theorem dU(p n f s g k:Nat)(w:World)(slots:List Value)(h:Uy w p g n f s slots)(hf:f<n)(hs:s<=n)(hn:n<=65536)(hk:k<s):
  Calls Tryz.prog 139 #[.pointer (some ⟨p,0,none⟩),.int .i64 k] w fun e w'=>e=.returned (.tuple #[vx slots (place n f k),.bool true])/\∃q,w'=w.drewN q:=by
 obtain⟨hB,hG,hl,-,hS⟩:=h;obtain⟨c0,c1,c2,f0,f1,f2⟩:=hB.three;have hp:=yP hf (show k<=n from QQ);have hm:=je hf (show k<=n from QQ);have hc:=jL hG (i:=place n f k) QQ;obtain⟨ya,yn,yc,hy⟩:=hS (place n f k) QQ;rw[hy]at hc;rw[hy];obtain⟨j,hj⟩:∃j,j=place n f k:=⟨_,rfl⟩;rw[<-hj]at hp hm hc;clear hj hG hB hl hS hy;have i0:IntKind.i64.wrap ((f:Int)+k)=(f:Int)+k:=YX _ QQ;have i1:((f:Int)+k).tmod n=j:=by
  rw[Int.tmod_eq_emod_of_nonneg QQ,<-Int.natCast_add,<-Int.natCast_emod,hm]
 have i2:IntKind.i64.wrap (j:Int)=(j:Int):=YX _ QQ;have i3:(j:Int)<(n:Int):=QQ;have i4:((n:Int)==0)=false:=QY;clear hm;go_enter Tryz.func139,Tryz.ntmps139
 go_wp2
 go_quiet (fail)
 go_wp2;go_ret2
 exact⟨rfl,_,rfl⟩
def QJ1(p g j s:Nat)(x:Value)(w:World)(e:Ending)(w':World):Prop:=e=.returned (.tuple #[.slice none 0 0,.bool false])/\∃q,w'=((w.setCell ⟨g,j,none⟩ x).setCell ⟨p,2,none⟩ (.int .i64 ((s+1:Nat):Int))).drewN q
theorem Ij(p n f s g:Nat)(xa:Option Addr)(xn xc:Nat)(w:World)(slots:List Value)(h:Uy w p g n f s slots)(hf:f<n)(hs:s<n)(hn:n<=65536):
  Calls Tryz.prog 120 #[.pointer (some ⟨p,0,none⟩),.slice xa xn xc] w (QJ1 p g (place n f s) s (.slice xa xn xc) w):=by
 obtain⟨hB,hG,hl,hpg,hS⟩:=h;obtain⟨c0,c1,c2,f0,f1,f2⟩:=hB.three;have hp:=yP hf (show s<=n from QQ);have hm:=je hf (show s<=n from QQ);have hc:=jL hG (i:=place n f s) QQ;have hfr:=hG.free (place n f s);obtain⟨ya,yn,yc,hy⟩:=hS (place n f s) QQ;rw[hy]at hc;obtain⟨j,hj⟩:∃j,j=place n f s:=⟨_,rfl⟩;rw[<-hj]at hp hm hc hfr;rw[<-hj];clear hj hy hS;have i0:IntKind.i64.wrap ((f:Int)+s)=(f:Int)+s:=YX _ QQ;have i1:((f:Int)+s).tmod n=j:=by
  rw[Int.tmod_eq_emod_of_nonneg QQ,<-Int.natCast_add,<-Int.natCast_emod,hm]
 have i2:IntKind.i64.wrap (j:Int)=(j:Int):=YX _ QQ;have i3:(j:Int)<(n:Int):=QQ;have i4:((n:Int)==0)=false:=QY;have i5:(s:Int)<(n:Int):=QQ;have hgp:g≠p:=fun e=>hpg e.symm
 clear hm hl hG hB;go_enter Tryz.func120,Tryz.ntmps120
 go_wp2
 go_region
 all_goals go_wp2
 all_goals(go_ret2;exact⟨rfl,1,rfl⟩)
def QJ0(p g f f':Nat)(old x:Value)(w:World)(e:Ending)(w':World):Prop:=e=.returned (.tuple #[old,.bool true])/\∃q,w'=((w.setCell ⟨g,f,none⟩ x).setCell ⟨p,1,none⟩ (.int .i64 f')).drewN q
theorem Iy(p n f g:Nat)(xa:Option Addr)(xn xc:Nat)(w:World)(slots:List Value)(h:Uy w p g n f n slots)(hf:f<n)(hn:n<=65536):
  Calls Tryz.prog 120 #[.pointer (some ⟨p,0,none⟩),.slice xa xn xc] w (QJ0 p g f (place n f 1) (vx slots f) (.slice xa xn xc) w):=by
 obtain⟨hB,hG,hl,hpg,hS⟩:=h;obtain⟨c0,c1,c2,f0,f1,f2⟩:=hB.three;have hp:=yP hf (show 1<=n from QQ);have hm:=je hf (show 1<=n from QQ);have hc:=jL hG (i:=f) QQ;have hfr:=hG.free f;obtain⟨ya,yn,yc,hy⟩:=hS f QQ;rw[hy]at hc;rw[hy];obtain⟨j,hj⟩:∃j,j=place n f 1:=⟨_,rfl⟩;rw[<-hj]at hp hm;rw[<-hj];clear hj hy hS;have i1:((f:Int)+1) % n=j:=by
  rw[show((f:Int)+1)=((f+1:Nat):Int)from QQ,<-Int.natCast_emod,hm]
 have i3:(f:Int)<(n:Int):=QQ;have i4:((n:Int)==0)=false:=QY;have hgp:g≠p:=fun e=>hpg e.symm
 have I1:=Zy i1;clear hm hl hG hB i1;go_enter Tryz.func120,Tryz.ntmps120
 go_wp2
 go_region
 all_goals go_wp2
 all_goals(go_ret2;rw[I1.out];exact⟨rfl,1,rfl⟩)
def Kt(n f s:Nat)(slots:List Value):List Value:=(List.range s).map fun k=>vx slots (place n f k)
theorem Y8(n f s:Nat)(slots:List Value):(Kt n f s slots).length=s:=by simp[Kt]
theorem I6{n f s k:Nat}{slots:List Value}(h:k<s):(Kt n f s slots).take (k+1)=(Kt n f s slots).take k++[vx slots (place n f k)]:=by
 rw[Xx (by rw[Y8];exact h)];simp[Kt]
theorem D7{n f s k:Nat}{slots:List Value}(h:k<s):vx (Kt n f s slots) k=vx slots (place n f k):=by
 rw[VB (by rw[Y8];exact h)];simp[Kt]
theorem Uy.below{w w':World}{p g n f s:Nat}{slots:List Value}(h:Uy w p g n f s slots)(hb:Below w.heap.size w w'):Uy w' p g n f s slots:=
 ⟨h.1.below hb h.1.lt,h.2.1.below hb h.2.1.lt,h.2.2⟩
theorem QXm(c:Nat)(hc:c<=65536)(w:World):
  (Instr.makeSlice 49 (.int .i64 0) (.int .i64 (c:Int))).run Tryz.prog w=.ok (.slice (some ⟨w.heap.size,0,none⟩) 0 c) (w.alloc (.cells (madeCells #[.slice none 0 0] c) 22)):=by
 obtain⟨i0,hi,hz0,hz1,hz2⟩:=XR jQ;have:=run_make (P:=Tryz.prog) w 49 22 i0 (.slice none 0 0) Tryz.underlying49 hi hz0 .i64 .i64 (0:Nat) c QQ QQ QE3 QQ;rw[hz1,XK,XK,Nat.mul_one]at this;exact this
theorem SX(w:World)(base c:Nat)(hb:base<=w.heap.size)(hc:c<=65536):Xc 22 base (w.alloc (.cells (madeCells #[.slice none 0 0] c) 22)) (.slice (some ⟨w.heap.size,0,none⟩) 0 c) []:=
 World.ownsRow_made w _ c hb Qg QEE
def aT(vs:List Value)(w:World)(e:Ending)(w':World):Prop:=∃v,e=.returned v/\Xc 22 w.heap.size w' v vs/\Below w.heap.size w w'
theorem NZ(p n f s g:Nat)(w:World)(slots:List Value)(h:Uy w p g n f s slots)(hf:f<n)(hs:s<=n)(hn:n<=65536):
  Calls Tryz.prog 121 #[.pointer (some ⟨p,0,none⟩)] w (aT (Kt n f s slots) w):=by
 have hmk:=QXm s QQ;obtain⟨c0,c1,c2,f0,f1,f2⟩:=h.1.three;have hpl:=h.1.lt;have hS:=h.2.2.2.2;have hl:=h.2.2.1;have hSV:∀k,k<s->∃a n' c,vx slots (place n f k)=.slice a n' c:=fun k hk=>hS _ (by have:=yP hf (show k<=n from QQ);omega)
 have HS:=Zy hSV;have H:=Zy h;clear h hS hl hSV;go_enter Tryz.func121,Tryz.ntmps121
 go_wp2
 go_loopw [16,3] (fun i v wr=>∃k:Nat,i=.int .i64 (k:Int)/\k<=s/\Xc 22 w.heap.size wr v ((Kt n f s slots).take k)/\Below w.heap.size w wr) (fun i _ _=>s-(intOf i).toNat)
 case atStart=>exact⟨0,rfl,QQ,SX w w.heap.size s (ZB _) QQ,ZR _ _⟩
 case round=>
  obtain⟨k,rfl,hk,hown,hbel⟩:=hrel;have hlen:((Kt n f s slots).take k).length+1<=4398046511104:=by simp[Y8];omega
  by_cases hlt:k<s
  ·obtain⟨ya,yn,yc,hy⟩:=HS.out k hlt
   have HY:=Zy hy;have HRA:=Zy (dU p n f s g k wr slots (H.out.below hbel) hf hs hn hlt);rw[hy]at HRA;clear hy;go_wp2_with fail
   refine HRA.out.mono ?_;rintro e w1 ⟨rfl,q,hq⟩;have hown1:Xc 22 w.heap.size w1 u3 ((Kt n f s slots).take k):=by rw[hq];exact hown.drewN q
   have hb1:Below w.heap.size w w1:=by rw[hq];exact below_drewN hbel q
   have bY:=Zy (JD w1 [.slice ya yn yc] 22);have HSS:=Zy (show MH [.slice ya yn yc]from fun i hi=>by
    obtain rfl:i=0:=QS;exact⟨ya,yn,yc,rfl⟩)
   clear hq;go_wp2_with (at_builtin;refine QUY rfl _ _ rfl w.heap.size u3 _ [.slice ya yn yc] _ 1 1 rfl rfl (hown1.alloc _) bY.out HSS.out rfl hlen (XJ hb1.size _) ?_;intro v2 w2 hown2 hgrow2)
   go_roundw
   case rel=>exact⟨k+1,Qy,QQ,by rw[I6 hlt,HY.out];exact hown2,(hb1.alloc hb1.size _).grown hgrow2 (by have:=hb1.size;simp;omega) hown.row⟩
   case measure=>simp[intOf];omega
  ·obtain rfl:k=s:=by omega
   go_wp2;go_ret;rw[Z6 (by simp[Y8])]at hown;exact⟨_,rfl,hown,hbel⟩
def jE(p g:Nat)(w w':World):Prop:=w'.heap.size=w.heap.size/\∀B,B≠p->B≠g->w'.heap[B]? =w.heap[B]?
theorem jE.refl(p g:Nat)(w:World):jE p g w w:=⟨rfl,fun _ _ _=>rfl⟩
theorem jE.set{p g:Nat}{w w':World}(h:jE p g w w'){a:Addr}(ha:a.block=p\/a.block=g)(u:Value):jE p g w (w'.setCell a u):=by
 refine⟨by rw[size_setCell];exact h.1,fun B h1 h2=>?_⟩;rw[Zl _ _ _ _ (by rcases ha with e|e<;>rw[e]<;>assumption)];exact h.2 B h1 h2
theorem jE.drewN{p g:Nat}{w w':World}(h:jE p g w w')(n:Nat):jE p g w (w'.drewN n):=h
theorem jE.cell{p g:Nat}{w w':World}(h:jE p g w w'){q:Addr}{v:Value}(h1:q.block≠p)(h2:q.block≠g)(hc:w.cell? q=some v):w'.cell? q=some v:=by
 unfold World.cell? at *;rw[h.2 _ h1 h2];exact hc
theorem jE.blk{p g:Nat}{w w':World}(h:jE p g w w'){B:Nat}{cs:Array Value}{e:TypeId}(h1:B≠p)(h2:B≠g)(hb:Za w B cs e):Za w' B cs e:=by
 unfold Za at *;rw[h.2 _ h1 h2];exact hb
theorem Uy.QUv{w:World}{p g n f s:Nat}{slots:List Value}(h:Uy w p g n f s slots){x:Value}(hx:∃a n c,x=.slice a n c)(q j:Nat):
  Uy (((w.setCell ⟨g,j,none⟩ x).setCell ⟨p,2,none⟩ (.int .i64 ((s+1:Nat):Int))).drewN q) p g n f (s+1) (slots.set j x):=by
 obtain⟨h1,h2,h3,h4,h5⟩:=h;refine⟨?_,?_,by simp[h3],h4,fun i hi=>?_⟩
 ·have:=(h1.other (a:=⟨g,j,none⟩) h4 x).set 2 (.int .i64 ((s+1:Nat):Int))
  simp only[Zj,Zk,Zv]at this;exact this.drewN q
 ·exact(Iz h2 j x).other (a:=⟨p,2,none⟩) (fun e=>h4 e.symm) _
 ·simp only[YK]at hi
  by_cases e:j=i
  ·subst e;rw[YC hi];exact hx
  ·rw[ZP e];exact h5 i hi
theorem Uy.QUu{w:World}{p g n f s:Nat}{slots:List Value}(h:Uy w p g n f s slots){x:Value}(hx:∃a n c,x=.slice a n c)(q j f':Nat):
  Uy (((w.setCell ⟨g,j,none⟩ x).setCell ⟨p,1,none⟩ (.int .i64 f')).drewN q) p g n f' s (slots.set j x):=by
 obtain⟨h1,h2,h3,h4,h5⟩:=h;refine⟨?_,?_,by simp[h3],h4,fun i hi=>?_⟩
 ·have:=(h1.other (a:=⟨g,j,none⟩) h4 x).set 1 (.int .i64 f')
  simp only[Zj,Zk,Zv]at this;exact this.drewN q
 ·exact(Iz h2 j x).other (a:=⟨p,1,none⟩) (fun e=>h4 e.symm) _
 ·simp only[YK]at hi
  by_cases e:j=i
  ·subst e;rw[YC hi];exact hx
  ·rw[ZP e];exact h5 i hi
theorem M7{o:Oper}{a:Act}{K:Act->World->Prop}{Q:Exit->Act->World->Prop}{w:World}(s x:Operand)
  (ho:o.op=.call {callee:=.builtin .append,args:=#[s,x],argTypes:=#[49,49]})
  (base:Nat) (v:Value) (vs us:List Value) (ad:Addr) (m c:Nat) (hs:a.eval s=v) (hx:a.eval x=.slice (some ad) m c)
  (hown:Xc 22 base w v vs) (hy:KM w (some ad) us) (hus:MH us) (hm:us.length=m) (hl:vs.length+m<=4398046511104) (hbase:base<=w.heap.size)
  (h:∀v' w',Xc 22 base w' v' (vs++us)->w.grownBy w' v.ownBlock->(v'.ownBlock=v.ownBlock\/v'.ownBlock=some w.heap.size)->K (a.put o.dst v') w'):
  o.wp Tryz.prog a w K Q:=by
 obtain⟨i0,hi,hz0,hz1,hz2⟩:=XR jQ;obtain⟨v',w',hr,h2,h3,-,h5⟩:=run_append_own_at (P:=Tryz.prog) w base 49 o.type 22 i0 (.slice none 0 0) 1 24 Tryz.underlying49 hi hz0 hz1 hz2 rfl QZ v vs.length vs hown ad m c us (by simp[hm]) (by
  intro j u hj;have hlt:j<us.length:=by
   rcases Z9 j us.length with h|h
   ·exact h
   ·simp[h]at hj
  obtain⟨b,o',ha,hc⟩:=hy.at hlt;simp only[ZL]at ha;subst ha;have hadd:(⟨b,o',none⟩:Addr).add j=⟨b,o'+j,none⟩:=QF;rw[hadd,hc j hlt,VB hlt];rw[Z8 hlt]at hj;exact hj) hus.mem Qg QQ hbase
 have h2':Xc 22 base w' v' (vs++us):=by unfold Xc;simpa[hm]using h2
 have h:=h v' w' h2' h3 h5;unfold Oper.wp execOp;simp only[ho,resolve,invoke,builtin,Sem.run_bind,Sem.run_pure,Y4,List.map_toArray,List.map_cons,List.map_nil,hs,hx,hr];exact h
theorem FX{ops:Array Oper}{o:Oper}{a:Act}{K:Act->World->Prop}{Q:Exit->Act->World->Prop}{w:World}{E:Prop}(hw:Region.wanted o (yielded ops a.tmps)=true)(s x:Operand)
  (ho:o.op=.call {callee:=.builtin .append,args:=#[s,x],argTypes:=#[49,49]})
  (base:Nat) (v:Value) (vs us:List Value) (ad:Addr) (m c:Nat) (hs:a.eval s=v) (hx:a.eval x=.slice (some ad) m c)
  (hown:Xc 22 base w v vs) (hy:KM w (some ad) us) (hus:MH us) (hm:us.length=m) (hl:vs.length+m<=4398046511104) (hbase:base<=w.heap.size)
  (h:∀v' w',Xc 22 base w' v' (vs++us)->w.grownBy w' v.ownBlock->(v'.ownBlock=v.ownBlock\/v'.ownBlock=some w.heap.size)->K (a.put o.dst v') w'):
  if Region.wanted o (yielded ops a.tmps)=true then Oper.wp Tryz.prog o a w K Q else E:=by
 rw[if_pos hw];exact M7 s x ho base v vs us ad m c hs hx hown hy hus hm hl hbase h
theorem Xc.dK{e:TypeId}{base:Nat}{w:World}{v:Value}{vs:List Value}(h:Xc e base w v vs):EM (fun k=>v.ownBlock=some k) w v vs:=by
 obtain⟨a,n,c,h1,h2,h3,h4,h5,h6⟩:=h.vs;exact QIC
theorem Own.QZg{e:TypeId}{base:Nat}{w:World}{v:Value}{xs:List Int}(h:Own e base w v xs):Yn (fun k=>v.ownBlock=some k) w v xs:=by
 obtain⟨a,n,c,h1,h2,h3,h4,h5,h6⟩:=h.sl;exact QIC
theorem Own.Po{e:TypeId}{base:Nat}{w w':World}{v:Value}{xs:List Int}(h:Own e base w v xs)(h':Own e base w' v xs):Yn (fun k=>base<=k/\k<w.heap.size) w' v xs:=
 h'.QZg.imp fun k hk=>XC h k hk
def zC(h:Hi)(xs:List Int):List (List Int):=if xs=[]then h.ls else if h.most<(h.ls.length:Int)+1 then(h.ls++[xs]).drop 1 else h.ls++[xs]
def qj(h:Hi)(xs:List Int):Hi:=⟨zC h xs,h.most,(zC h xs).length,[],h.pat,h.older⟩
def Mc(P:Nat->Prop)(h:Hi)(E:Int)(w:World)(e:Ending)(w':World):Prop:=
 ∃lv sv pv,e=.returned (.tuple #[.agg (X7 lv h.most h.Zm sv pv h.older),.int .i64 E])/\WE P w' lv h.most h.Zm sv pv h.older h/\Below w.heap.size w w'
def QKC(h:Hi)(xs:List Int)(h':Hi)(E:Int):Prop:=
 (jF h≠0/\h'=hi0/\E=jF h)\/(jF h=0/\200<xs.length/\h'=hi0/\E=2)\/(jF h=0/\xs.length<=200/\h'=qj h xs/\E=0)
def nW(wr:World)(p g n:Nat)(all:List Value)(k:Nat):Prop:=
 (k<=n/\∃slots,Uy wr p g n 0 k slots/\∀i,i<k->vx slots i=vx all i)\/
 (k=n+1/\∃slots,Uy wr p g n (place n 0 1) n slots/\vx slots 0=vx all n/\∀i,1<=i->i<n->vx slots i=vx all i)
theorem dJ{vs us:List Value}(h:vs.length=us.length)(he:∀i,i<vs.length->vx vs i=vx us i):vs=us:=by
 apply List.ext_getElem h;intro i h1 h2;have:=he i h1
 rwa[VB h1,VB h2]at this
theorem nW.list{wr:World}{p g n:Nat}{all:List Value}{k:Nat}(h:nW wr p g n all k)(hk:all.length=k)(hn:1<=n):
  ∃f s slots,Uy wr p g n f s slots/\f<n/\s<=n/\Kt n f s slots=(if n<k then all.drop 1 else all):=by
 rcases h with⟨h1,slots,h2,h3⟩|⟨rfl,slots,h2,h3,h4⟩
 ·refine⟨0,k,slots,h2,QQ,h1,?_⟩
  rw[if_neg QQ];apply dJ (by rw[Y8,hk]);intro i hi;rw[Y8]at hi;rw[D7 hi,show place n 0 i=i from QD4];exact h3 i hi
 ·refine⟨place n 0 1,n,slots,h2,QD4,ZB _,?_⟩
  rw[if_pos QQ];apply dJ (by rw[Y8,Xk];omega);intro i hi;rw[Y8]at hi;rw[D7 hi,Eb];by_cases h0:i=n-1
  ·have:place n (place n 0 1) i=0:=by unfold place;split<;>split<;>omega
   rw[this,h3];congr 1;omega
  ·have:place n (place n 0 1) i=1+i:=by unfold place;split<;>split<;>omega
   rw[this];exact h4 (1+i) QQ QQ
theorem GN(lv:Value)(most Zm:Int)(sv pv:Value)(older:Bool)(ls:List (List Int))(M W:Int)(XU pat:List Int)(O:Bool)(a:Option Addr)(nn c:Nat)(w:World)(r:Wh w lv most Zm sv pv older ⟨ls,M,W,XU,pat,O⟩)(E:Int)(hE:jF ⟨ls,M,W,XU,pat,O⟩=E)(h0:E≠0)(P:Nat->Prop):
  Calls Tryz.prog 81 #[.agg (X7 lv most Zm sv pv older),.slice a nn c] w (Mc P hi0 E w):=by
 have HE:=Zy hE;have h0':(E !=0)=true:=Q7;have Jf:=Zy r;clear hE h0;obtain⟨⟨vs,hvs,hls⟩,h1,h2,Xr,Xt,h3⟩:=r;simp only at hls h1 h2 h3 Xr Xt;obtain rfl:M=most:=h1.symm;obtain rfl:W=Zm:=h2.symm;obtain rfl:O=older:=h3.symm;obtain⟨la,ln,lc,rfl,hl1,hl2,hl3,hl4,hl5⟩:=hvs;obtain⟨sa,sn,sc,rfl,hs1,hs2,hs3,hs4,hs5⟩:=Xr;obtain⟨pa,pn,pc,rfl,hp1,hp2,hp3,xJ,UC⟩:=Xt;have hll:ls.length=ln:=Qq;have Wv:=Zy (fun W' r=>VO (.slice la ln lc) M W (.slice sa sn sc) (.slice pa pn pc) O ⟨ls,M,W,XU,pat,O⟩ W' r);unfold X7 at *;have hB:=(Za.new w #[.slice la ln lc,.int .i64 M,.int .i64 W,.slice sa sn sc,.slice pa pn pc,.bool O] 85).alloc (.cells #[.slice none 0 0,.int .i64 0,.int .i64 0,.slice none 0 0,.slice none 0 0,.bool false] 85);have hR:=Za.new (w.alloc (.cells #[.slice la ln lc,.int .i64 M,.int .i64 W,.slice sa sn sc,.slice pa pn pc,.bool O] 85)) #[.slice none 0 0,.int .i64 0,.int .i64 0,.slice none 0 0,.slice none 0 0,.bool false] 85;rw[Zu]at hR;have hacc:=Zo w (.cells #[.slice la ln lc,.int .i64 M,.int .i64 W,.slice sa sn sc,.slice pa pn pc,.bool O] 85) (.cells #[.slice none 0 0,.int .i64 0,.int .i64 0,.slice none 0 0,.slice none 0 0,.bool false] 85);have hsz:w.heap.size+2<=((w.alloc (.cells #[.slice la ln lc,.int .i64 M,.int .i64 W,.slice sa sn sc,.slice pa pn pc,.bool O] 85)).alloc (.cells #[.slice none 0 0,.int .i64 0,.int .i64 0,.slice none 0 0,.slice none 0 0,.bool false] 85)).heap.size:=QJ;have HR1:=Zy (Jf.out.below hacc);clear hs1 hp1 hl1 hl5 hs5 UC hll hls Jf;go_enter Tryz.func81,Tryz.ntmps81
 go_upto_region 1 with fail
 change Code.wp _ _ _ _ ((w.alloc (.cells #[.slice la ln lc,.int .i64 M,.int .i64 W,.slice sa sn sc,.slice pa pn pc,.bool O] 85)).alloc (.cells #[.slice none 0 0,.int .i64 0,.int .i64 0,.slice none 0 0,.slice none 0 0,.bool false] 85));generalize((w.alloc (.cells #[.slice la ln lc,.int .i64 M,.int .i64 W,.slice sa sn sc,.slice pa pn pc,.bool O] 85)).alloc (.cells #[.slice none 0 0,.int .i64 0,.int .i64 0,.slice none 0 0,.slice none 0 0,.bool false] 85))=w1 at *;obtain⟨c0,c1,c2,c3,c4,c5⟩:=hB.six;go_wp2_with ((go_at_call 117);refine(Wv.out _ HR1.out).mono ?_;rintro e wc ⟨rfl,hb2⟩;rw[HE.out];have hB2:=hB.below hb2 hB.lt;obtain⟨d0,d1,d2,d3,d4,d5⟩:=hB2.six;have hR2:=hR.below hb2 hR.lt;obtain⟨p0,p1,p2,p3,p4,p5⟩:=hR2.six;obtain⟨t0,t1,t2,t3,t4,t5⟩:=hR2.YA;have Z0:=ZE hacc QQ hb2;have hlt2:=hB2.lt;have hz2:=hb2.size)
 obtain⟨y0,y1,y2,y3,y4,y5⟩:=(hR2.six' (.slice none 0 0) (.int .i64 0) (.int .i64 0) (.slice none 0 0) (.slice none 0 0) (.bool false)).six;refine ZC (v:=.tuple #[.agg (X7 (.slice none 0 0) 0 0 (.slice none 0 0) (.slice none 0 0) false),.int .i64 (E)]) Zx rfl ?_;exact⟨_,_,_,rfl,xS _ _,Jd Z0 (ZA _)⟩
theorem BL(lv:Value)(most Zm:Int)(sv pv:Value)(older:Bool)(ls:List (List Int))(M W:Int)(XU pat:List Int)(O:Bool)(a:Option Addr)(nn c:Nat)(w:World)(r:Wh w lv most Zm sv pv older ⟨ls,M,W,XU,pat,O⟩)(hE:jF ⟨ls,M,W,XU,pat,O⟩=0)(h0:200<nn)(P:Nat->Prop):
  Calls Tryz.prog 81 #[.agg (X7 lv most Zm sv pv older),.slice a nn c] w (Mc P hi0 2 w):=by
 have HE:=Zy hE;have Jf:=Zy r;clear hE;obtain⟨⟨vs,hvs,hls⟩,h1,h2,Xr,Xt,h3⟩:=r;simp only at hls h1 h2 h3 Xr Xt;obtain rfl:M=most:=h1.symm;obtain rfl:W=Zm:=h2.symm;obtain rfl:O=older:=h3.symm;obtain⟨la,ln,lc,rfl,hl1,hl2,hl3,hl4,hl5⟩:=hvs;obtain⟨sa,sn,sc,rfl,hs1,hs2,hs3,hs4,hs5⟩:=Xr;obtain⟨pa,pn,pc,rfl,hp1,hp2,hp3,xJ,UC⟩:=Xt;have hll:ls.length=ln:=Qq;have Wv:=Zy (fun W' r=>VO (.slice la ln lc) M W (.slice sa sn sc) (.slice pa pn pc) O ⟨ls,M,W,XU,pat,O⟩ W' r);unfold X7 at *;have hB:=(Za.new w #[.slice la ln lc,.int .i64 M,.int .i64 W,.slice sa sn sc,.slice pa pn pc,.bool O] 85).alloc (.cells #[.slice none 0 0,.int .i64 0,.int .i64 0,.slice none 0 0,.slice none 0 0,.bool false] 85);have hR:=Za.new (w.alloc (.cells #[.slice la ln lc,.int .i64 M,.int .i64 W,.slice sa sn sc,.slice pa pn pc,.bool O] 85)) #[.slice none 0 0,.int .i64 0,.int .i64 0,.slice none 0 0,.slice none 0 0,.bool false] 85;rw[Zu]at hR;have hacc:=Zo w (.cells #[.slice la ln lc,.int .i64 M,.int .i64 W,.slice sa sn sc,.slice pa pn pc,.bool O] 85) (.cells #[.slice none 0 0,.int .i64 0,.int .i64 0,.slice none 0 0,.slice none 0 0,.bool false] 85);have hsz:w.heap.size+2<=((w.alloc (.cells #[.slice la ln lc,.int .i64 M,.int .i64 W,.slice sa sn sc,.slice pa pn pc,.bool O] 85)).alloc (.cells #[.slice none 0 0,.int .i64 0,.int .i64 0,.slice none 0 0,.slice none 0 0,.bool false] 85)).heap.size:=QJ;have HR1:=Zy (Jf.out.below hacc);clear hs1 hp1 hl1 hl5 hs5 UC hll hls Jf;go_enter Tryz.func81,Tryz.ntmps81
 go_upto_region 1 with fail
 change Code.wp _ _ _ _ ((w.alloc (.cells #[.slice la ln lc,.int .i64 M,.int .i64 W,.slice sa sn sc,.slice pa pn pc,.bool O] 85)).alloc (.cells #[.slice none 0 0,.int .i64 0,.int .i64 0,.slice none 0 0,.slice none 0 0,.bool false] 85));generalize((w.alloc (.cells #[.slice la ln lc,.int .i64 M,.int .i64 W,.slice sa sn sc,.slice pa pn pc,.bool O] 85)).alloc (.cells #[.slice none 0 0,.int .i64 0,.int .i64 0,.slice none 0 0,.slice none 0 0,.bool false] 85))=w1 at *;obtain⟨c0,c1,c2,c3,c4,c5⟩:=hB.six;go_wp2_with ((go_at_call 117);refine(Wv.out _ HR1.out).mono ?_;rintro e wc ⟨rfl,hb2⟩;rw[HE.out];have hB2:=hB.below hb2 hB.lt;obtain⟨d0,d1,d2,d3,d4,d5⟩:=hB2.six;have hR2:=hR.below hb2 hR.lt;obtain⟨p0,p1,p2,p3,p4,p5⟩:=hR2.six;obtain⟨t0,t1,t2,t3,t4,t5⟩:=hR2.YA;have Z0:=ZE hacc QQ hb2;have hlt2:=hB2.lt;have hz2:=hb2.size)
 obtain⟨y0,y1,y2,y3,y4,y5⟩:=(hR2.six' (.slice none 0 0) (.int .i64 0) (.int .i64 0) (.slice none 0 0) (.slice none 0 0) (.bool false)).six;refine ZC (v:=.tuple #[.agg (X7 (.slice none 0 0) 0 0 (.slice none 0 0) (.slice none 0 0) false),.int .i64 (2)]) Zx rfl ?_;exact⟨_,_,_,rfl,xS _ _,Jd Z0 (ZA _)⟩
theorem BM(lv:Value)(most Zm:Int)(sv pv:Value)(older:Bool)(ls:List (List Int))(M W:Int)(XU pat:List Int)(O:Bool)(a:Option Addr)(nn c:Nat)(w:World)(r:Wh w lv most Zm sv pv older ⟨ls,M,W,XU,pat,O⟩)(xs:List Int)(hE:jF ⟨ls,M,W,XU,pat,O⟩=0)(hx:Ints w a xs)(Jq:xs.length=nn)(hx0:a=none->nn=0)(hnn:nn<=200)(h0:nn=0):
  Calls Tryz.prog 81 #[.agg (X7 lv most Zm sv pv older),.slice a nn c] w (Mc (fun k=>w.heap.size<=k) (qj ⟨ls,M,W,XU,pat,O⟩ xs) 0 w):=by
 have hok:=qK hE;have HE:=Zy hE;have Jf:=Zy r;have hm1:1<=M:=hok.LD;have hm2:M<=50:=hok.UQ;have hlm:(ls.length:Int)<=M:=hok.len;have kR:=Zy Jq;have HX0:=Zy hx0;have Pv:=Zy hok.lines;have nG:=Zy hok.XU;have nI:=Zy hok.pat;clear hE hok Jq hx0;obtain⟨⟨vs,hvs,hls⟩,h1,h2,Xr,Xt,h3⟩:=r;simp only at hls h1 h2 h3 Xr Xt;obtain rfl:M=most:=h1.symm;obtain rfl:W=Zm:=h2.symm;obtain rfl:O=older:=h3.symm;obtain⟨la,ln,lc,rfl,hl1,hl2,hl3,hl4,hl5⟩:=hvs;obtain⟨sa,sn,sc,rfl,hs1,hs2,hs3,hs4,hs5⟩:=Xr;obtain⟨pa,pn,pc,rfl,hp1,hp2,hp3,xJ,UC⟩:=Xt;have hll:ls.length=ln:=Qq;have Wv:=Zy (fun W' r=>VO (.slice la ln lc) M W (.slice sa sn sc) (.slice pa pn pc) O ⟨ls,M,W,XU,pat,O⟩ W' r);have kS:=Zy (fun W' r=>Kh (.slice la ln lc) M W (.slice sa sn sc) (.slice pa pn pc) O ⟨ls,M,W,XU,pat,O⟩ W' r (by show ls.length<=50;omega) Pv.out nG.out nI.out);rw[hll]at hlm;obtain rfl:nn=0:=h0;have uh:=Zy hll;unfold X7 at *;have hB:=(Za.new w #[.slice la ln lc,.int .i64 M,.int .i64 W,.slice sa sn sc,.slice pa pn pc,.bool O] 85).alloc (.cells #[.slice none 0 0,.int .i64 0,.int .i64 0,.slice none 0 0,.slice none 0 0,.bool false] 85);have hR:=Za.new (w.alloc (.cells #[.slice la ln lc,.int .i64 M,.int .i64 W,.slice sa sn sc,.slice pa pn pc,.bool O] 85)) #[.slice none 0 0,.int .i64 0,.int .i64 0,.slice none 0 0,.slice none 0 0,.bool false] 85;rw[Zu]at hR;have hacc:=Zo w (.cells #[.slice la ln lc,.int .i64 M,.int .i64 W,.slice sa sn sc,.slice pa pn pc,.bool O] 85) (.cells #[.slice none 0 0,.int .i64 0,.int .i64 0,.slice none 0 0,.slice none 0 0,.bool false] 85);have hsz:w.heap.size+2<=((w.alloc (.cells #[.slice la ln lc,.int .i64 M,.int .i64 W,.slice sa sn sc,.slice pa pn pc,.bool O] 85)).alloc (.cells #[.slice none 0 0,.int .i64 0,.int .i64 0,.slice none 0 0,.slice none 0 0,.bool false] 85)).heap.size:=QJ;have HR1:=Zy (Jf.out.below hacc);clear hs1 hp1 hl1 hl5 hs5 UC hll hls Jf;go_enter Tryz.func81,Tryz.ntmps81
 go_upto_region 1 with fail
 change Code.wp _ _ _ _ ((w.alloc (.cells #[.slice la ln lc,.int .i64 M,.int .i64 W,.slice sa sn sc,.slice pa pn pc,.bool O] 85)).alloc (.cells #[.slice none 0 0,.int .i64 0,.int .i64 0,.slice none 0 0,.slice none 0 0,.bool false] 85));generalize((w.alloc (.cells #[.slice la ln lc,.int .i64 M,.int .i64 W,.slice sa sn sc,.slice pa pn pc,.bool O] 85)).alloc (.cells #[.slice none 0 0,.int .i64 0,.int .i64 0,.slice none 0 0,.slice none 0 0,.bool false] 85))=w1 at *;obtain⟨c0,c1,c2,c3,c4,c5⟩:=hB.six;go_wp2_with ((go_at_call 117);refine(Wv.out _ HR1.out).mono ?_;rintro e wc ⟨rfl,hb2⟩;rw[HE.out];have hB2:=hB.below hb2 hB.lt;obtain⟨d0,d1,d2,d3,d4,d5⟩:=hB2.six;have hR2:=hR.below hb2 hR.lt;obtain⟨p0,p1,p2,p3,p4,p5⟩:=hR2.six;obtain⟨t0,t1,t2,t3,t4,t5⟩:=hR2.YA;have Z0:=ZE hacc QQ hb2;have hlt2:=hB2.lt;have hz2:=hb2.size;have HR2:=Zy (HR1.out.below hb2))
 refine(kS.out _ HR2.out).mono ?_;rintro e w2 ⟨tX,rq,rP,vs2,rfl,ho2,zz,os2,FT,hb3⟩;obtain⟨ra,rn,rc,rfl⟩:=ho2.form;obtain⟨ta,tn,tc,rfl⟩:=os2.form;obtain⟨ua,un,uc,rfl⟩:=FT.form;have Ji:=ZE Z0 QQ hb3;have hB3:=hB2.below hb3 hB2.lt;have Wx:=hR2.below hb3 hR2.lt;have hz3:=hb3.size;have iO:=ho2.mono (base':=w.heap.size+2) QQ;have Lg:=zz.imp (base':=w.heap.size+2) fun _ _ k=>k.mono QQ
 have gD:=FT.mono (base':=w.heap.size+2) QQ;have yj:=Zy iO;have Cz:=Zy Lg;have nL:=Zy gD;simp only[X7];clear ho2 zz os2 FT iO Lg gD c0 c1 c2 c3 c4 c5 d0 d1 d2 d3 d4 d5 p0 p1 p2 p3 p4 p5 t0 t1 t2 t3 t4 t5;have hN3:=Za.new w2 #[.slice ra rn rc,.int .i64 M,.int .i64 W,.slice ta tn tc,.slice ua un uc,.bool O] 85;have hk3:=ZR w2 (.cells #[.slice ra rn rc,.int .i64 M,.int .i64 W,.slice ta tn tc,.slice ua un uc,.bool O] 85);have Ex:(w2.alloc (.cells #[.slice ra rn rc,.int .i64 M,.int .i64 W,.slice ta tn tc,.slice ua un uc,.bool O] 85)).heap.size=w2.heap.size+1:=QJ;have hB4:=hB3.alloc (.cells #[.slice ra rn rc,.int .i64 M,.int .i64 W,.slice ta tn tc,.slice ua un uc,.bool O] 85);have hR4:=Wx.alloc (.cells #[.slice ra rn rc,.int .i64 M,.int .i64 W,.slice ta tn tc,.slice ua un uc,.bool O] 85);go_upto_region 7 with fail
 change Code.wp _ _ _ _ (w2.alloc (.cells #[.slice ra rn rc,.int .i64 M,.int .i64 W,.slice ta tn tc,.slice ua un uc,.bool O] 85));generalize(w2.alloc (.cells #[.slice ra rn rc,.int .i64 M,.int .i64 W,.slice ta tn tc,.slice ua un uc,.bool O] 85))=w3 at *;have VR:=ZE Ji QQ hk3;obtain⟨n0,n1,n2,n3,n4,n5⟩:=hN3.six;obtain⟨m0,m1,m2,m3,m4,m5⟩:=hN3.YA;have Qzb:=(yj.out.kept hk3).dK;have hrl:rn=ls.length:=by
  have h1:=yj.out.vs.get.1;have h2:vs2.length=ls.length:=Cz.out.1;omega
 have HRL:=Zy hrl;clear Qzb hrl;obtain⟨p0,p1,p2,p3,p4,p5⟩:=hR4.six;obtain⟨t0,t1,t2,t3,t4,t5⟩:=hR4.YA;go_wp2;have KQ:=(hR4.other (a:=⟨w2.heap.size,2,none⟩) Q5 (.int .i64 (rn:Int))).other (a:=⟨w2.heap.size,3,none⟩) Q5 (.slice none 0 0);obtain⟨y0,y1,y2,y3,y4,y5⟩:=(KQ.six' (.slice ra rn rc) (.int .i64 M) (.int .i64 (rn:Int)) (.slice none 0 0) (.slice ua un uc) (.bool O)).six;refine ZC (v:=.tuple #[.agg (X7 (.slice ra rn rc) M (rn:Int) (.slice none 0 0) (.slice ua un uc) O),.int .i64 0]) Zx rfl ?_;have hxs:xs=[]:=ZM kR.out;have hAH:qj ⟨ls,M,W,XU,pat,O⟩ xs=⟨ls,M,(rn:Int),[],pat,O⟩:=by
  unfold qj zC;rw[if_pos hxs,HRL.out]
 rw[hAH];have Yw:=(VR.setCell (p:=⟨w2.heap.size,2,none⟩) Qv (.int .i64 (rn:Int))).setCell (p:=⟨w2.heap.size,3,none⟩) Qv (.slice none 0 0);have hcl:=fun(q:Addr) (v:Value) (hq:w.heap.size+2<=q.block/\q.block<w2.heap.size) (hc:w3.cell? q=some v)=>
  Re (B:=w.heap.size+1) (u0:=.slice ra rn rc) (u1:=.int .i64 M) (u2:=.int .i64 (rn:Int)) (u3:=.slice none 0 0) (u4:=.slice ua un uc) (u5:=.bool O) (Zr (Zr hc (a:=⟨w2.heap.size,2,none⟩) (u:=.int .i64 (rn:Int)) (by show q.block≠w2.heap.size;omega)) (a:=⟨w2.heap.size,3,none⟩) (u:=.slice none 0 0) (by show q.block≠w2.heap.size;omega)) QQ
 exact⟨_,_,_,rfl,⟨⟨vs2,((yj.out.kept hk3).dK.imp (Q:=fun k=>w.heap.size+2<=k/\k<w2.heap.size) (fun k hk=>XC yj.out k hk)).keep hcl |>.imp (fun k hk=>QQ),⟨Cz.out.1,fun i hi=>(((Cz.out.2 i hi).Po ((Cz.out.2 i hi).kept hk3)).keep hcl).imp (fun k hk=>QQ)⟩⟩,rfl,rfl,Yn.nil _ _,((nL.out.Po (nL.out.kept hk3)).keep hcl).imp (fun k hk=>QQ),rfl⟩,Jd Yw (ZA _)⟩
def KD(c:Int):Bool:=decide ((0<=c/\c<55296)\/(57343<c/\c<=1114111))
theorem AJ(c:Int)(w:World):Calls Tryz.prog 49 #[.int .i64 c] w fun e w'=>e=.returned (.bool (KD c))/\w=w':=by
 exact QIG
def yo(n:Int):Int:=if n=2 then 128 else if n=3 then 2048 else if n=4 then 65536 else 0
theorem Di(n:Int)(w:World):Calls Tryz.prog 135 #[.int .i64 n] w fun e w'=>e=.returned (.int .i64 (yo n))/\w=w':=by
 go_enter Tryz.func135,Tryz.ntmps135
 go_wp2
 all_goals
  go_ret;refine⟨XE ?_,rfl⟩;simp_all[yo]
def tq(b:Int):Int:=if b<128 then 1 else if b<192 then 0 else if b<224 then 2 else if b<240 then 3 else if b<248 then 4 else 0
def ldC(b:Int):Int:=if b<128 then b else if b<192 then 0 else if b<224 then b % 32 else if b<240 then b % 16 else if b<248 then b % 8 else 0
theorem AU(b:Int)(h0:0<=b)(h1:b<=255)(w:World):Calls Tryz.prog 134 #[.int .u8 b] w fun e w'=>e=.returned (.tuple #[.int .i64 (tq b),.int .i64 (ldC b)])/\w=w':=by
 have HN:=Zy (show tq b=_ from rfl);have HC:=Zy (show ldC b=_ from rfl);go_enter Tryz.func134,Tryz.ntmps134
 go_wp2
 all_goals
  go_ret2
  refine⟨XD Ending.returned (XD Value.tuple (show#[Value.int .i64 _,Value.int .i64 _]=_ from ?_)),rfl⟩;unfold tq ldC
  repeat' split
  all_goals first|rfl|(exfalso;omega)
def onV(b:Int):Int:=if b<128 then 0 else if b<192 then 1 else if b<224 then 2 else if b<240 then 3 else if b<248 then 4 else if b<252 then 5 else if b<254 then 6 else if b<255 then 7 else 8
theorem enc1{c:Int}(h0:0<=c)(h:c<128):Utf8.encode c=⟨([c].map fun x=>UInt8.ofNat x.toNat).toArray⟩:=by
 unfold Utf8.encode;rw[show Utf8.valid c=true from QEv];simp only[if_true];rw[if_pos QQ];rfl
theorem enc2{c:Int}(h0:128<=c)(h:c<2048):Utf8.encode c=⟨([192+c / 64,128+c % 64].map fun x=>UInt8.ofNat x.toNat).toArray⟩:=by
 unfold Utf8.encode;rw[show Utf8.valid c=true from QEv];simp only[if_true];rw[if_neg QQ,if_pos QQ];simp only[List.map_cons,List.map_nil];rw[show(192+c / 64).toNat=0xC0+c.toNat / 64 from QQ,show(128+c % 64).toNat=0x80+c.toNat % 64 from QQ]
theorem enc3{c:Int}(h0:2048<=c)(h:c<65536)(hv:KD c=true):Utf8.encode c=⟨([224+c / 4096,128+c / 64 % 64,128+c % 64].map fun x=>UInt8.ofNat x.toNat).toArray⟩:=by
 simp[KD]at hv;unfold Utf8.encode;rw[show Utf8.valid c=true from QEv];simp only[if_true];rw[if_neg QQ,if_neg QQ,if_pos QQ];simp only[List.map_cons,List.map_nil];rw[show(224+c / 4096).toNat=0xE0+c.toNat / 4096 from QQ,show(128+c / 64 % 64).toNat=0x80+c.toNat / 64 % 64 from QQ,show(128+c % 64).toNat=0x80+c.toNat % 64 from QQ]
theorem enc4{c:Int}(h0:65536<=c)(h:c<=1114111):Utf8.encode c=⟨([240+c / 262144,128+c / 4096 % 64,128+c / 64 % 64,128+c % 64].map fun x=>UInt8.ofNat x.toNat).toArray⟩:=by
 unfold Utf8.encode;rw[show Utf8.valid c=true from QEv];simp only[if_true];rw[if_neg QQ,if_neg QQ,if_neg QQ];simp only[List.map_cons,List.map_nil];rw[show(240+c / 262144).toNat=0xF0+c.toNat / 262144 from QQ,show(128+c / 4096 % 64).toNat=0x80+c.toNat / 4096 % 64 from QQ,show(128+c / 64 % 64).toNat=0x80+c.toNat / 64 % 64 from QQ,show(128+c % 64).toNat=0x80+c.toNat % 64 from QQ]
theorem Qzx{x y:Int}(h0:0<=x)(h1:x<1099511627776)(h2:0<=y)(h3:y<64):bits .or .i64 (x*64) y=x*64+y:=by
 obtain⟨a,rfl⟩:=Zw h0;obtain⟨b,rfl⟩:=Zw h2;have e:((a:Int)*64)=((a*64:Nat):Int):=QQ;rw[e];show IntKind.i64.wrap ((BitVec.ofInt 64 ((a*64:Nat):Int) ||| BitVec.ofInt 64 (b:Int)).toNat:Int)=_;rw[BitVec.toNat_or,ofInt_u64 (a*64) QQ,ofInt_u64 b QQ];have:=Nat.two_pow_add_eq_or_of_lt (i:=6) (b:=b) QQ a;rw[show a*64=2 ^ 6*a from QQ,<-this,Lib.wrap_i64_small _ QQ];omega
structure G where
 c:Int
 n:Int
 e:Int
def Vb(x:Int):Bool:=decide (128<=x/\x<192)
def uR(k c:Int):G:=if c<yo k\/KD c=false then⟨0,0,4⟩else⟨c,k,0⟩
def gV(len:Nat)(b0 b1 b2 b3:Int):G:=
 if len=0 then⟨0,0,3⟩
 else if b0<128 then⟨b0,1,0⟩
 else if b0<192\/248<=b0 then⟨0,0,4⟩
 else if len=1 then⟨0,0,3⟩else if Vb b1=false then⟨0,0,4⟩
 else if b0<224 then uR 2 (b0 % 32*64+b1 % 64)
 else if len=2 then⟨0,0,3⟩else if Vb b2=false then⟨0,0,4⟩
 else if b0<240 then uR 3 ((b0 % 16*64+b1 % 64)*64+b2 % 64)
 else if len=3 then⟨0,0,3⟩else if Vb b3=false then⟨0,0,4⟩
 else uR 4 (((b0 % 8*64+b1 % 64)*64+b2 % 64)*64+b3 % 64)
def gS(s:ByteArray):G:=gV s.size (bt s 0) (bt s 1) (bt s 2) (bt s 3)
def QW3(g:G)(w:World)(e:Ending)(w':World):Prop:=e=.returned (.tuple #[.int .i64 g.c,.int .i64 g.n,.int .i64 g.e])/\Below w.heap.size w w'
def Head(b0:Int)(N:Nat)(c0:Int):Prop:=(192<=b0/\b0<224/\N=2/\c0=b0 % 32)\/(224<=b0/\b0<240/\N=3/\c0=b0 % 16)\/(240<=b0/\b0<248/\N=4/\c0=b0 % 8)
def kM(c0:Int)(s:ByteArray):Nat->Int
 | 0=>c0
 | k+1=>kM c0 s k*64+bt s (k+1) % 64
theorem QQ8{c0:Int}{s:ByteArray}(h0:0<=c0)(h1:c0<32){k:Nat}(hk:k<=3):0<=kM c0 s k/\kM c0 s k<8388608:=by
 have r1:=Uf s 1;have r2:=Uf s 2;have r3:=Uf s 3;obtain rfl|rfl|rfl|rfl:k=0\/k=1\/k=2\/k=3:=QQ
 all_goals simp only[kM];omega
theorem Head.bd{b0:Int}{N:Nat}{c0:Int}(h:Head b0 N c0):2<=N/\N<=4/\0<=c0/\c0<32:=by
 unfold Head at h;omega
theorem lN{s:ByteArray}{N i:Nat}{c0:Int}(h:Head (bt s 0) N c0)(h1:1<=i)(h2:i<N)(hs:s.size=i)(hc:∀j,1<=j->j<i->Vb (bt s j)=true):gS s=⟨0,0,3⟩:=by
 unfold gS gV;have hb:=h;unfold Head at hb;rw[if_neg QQ,if_neg QQ,if_neg QQ];obtain rfl|rfl|rfl:i=1\/i=2\/i=3:=by have:=h.bd;omega
 ·rw[if_pos hs]
 ·rw[if_neg QQ,if_neg (by rw[hc 1 QQ QQ];simp),if_neg QQ,if_pos hs]
 ·rw[if_neg QQ,if_neg (by rw[hc 1 QQ QQ];simp),if_neg QQ,if_neg QQ,if_neg (by rw[hc 2 QQ QQ];simp),if_neg QQ,if_pos hs]
theorem QQR{s:ByteArray}{N i:Nat}{c0:Int}(h:Head (bt s 0) N c0)(h1:1<=i)(h2:i<N)(hs:i<s.size)(hc:∀j,1<=j->j<i->Vb (bt s j)=true)(hf:Vb (bt s i)=false):gS s=⟨0,0,4⟩:=by
 unfold gS gV;have hb:=h;unfold Head at hb;rw[if_neg QQ,if_neg QQ,if_neg QQ];obtain rfl|rfl|rfl:i=1\/i=2\/i=3:=by have:=h.bd;omega
 ·rw[if_neg QQ,if_pos hf]
 ·rw[if_neg QQ,if_neg (by rw[hc 1 QQ QQ];simp),if_neg QQ,if_neg QQ,if_pos hf]
 ·rw[if_neg QQ,if_neg (by rw[hc 1 QQ QQ];simp),if_neg QQ,if_neg QQ,if_neg (by rw[hc 2 QQ QQ];simp),if_neg QQ,if_neg QQ,if_pos hf]
theorem QJL{s:ByteArray}{N:Nat}{c0:Int}(h:Head (bt s 0) N c0)(hs:N<=s.size)(hc:∀j,1<=j->j<N->Vb (bt s j)=true):gS s=uR N (kM c0 s (N-1)):=by
 unfold gS gV;have hb:=h;unfold Head at hb;rw[if_neg QQ,if_neg QQ,if_neg QQ,if_neg QQ,if_neg (by rw[hc 1 QQ QQ];simp)];rcases hb with⟨a,b,rfl,rfl⟩|⟨a,b,rfl,rfl⟩|⟨a,b,rfl,rfl⟩
 ·rw[if_pos b];rfl
 ·rw[if_neg QQ,if_neg QQ,if_neg (by rw[hc 2 QQ QQ];simp),if_pos b];rfl
 ·rw[if_neg QQ,if_neg QQ,if_neg (by rw[hc 2 QQ QQ];simp),if_neg QQ,if_neg QQ,if_neg (by rw[hc 3 QQ QQ];simp)];rfl
theorem QJI{s:ByteArray}(hs:0<s.size)(h:bt s 0<128):gS s=⟨bt s 0,1,0⟩:=by
 unfold gS gV;rw[if_neg QQ,if_pos h]
theorem QJM{s:ByteArray}(hs:0<s.size)(h:(128<=bt s 0/\bt s 0<192)\/248<=bt s 0):gS s=⟨0,0,4⟩:=by
 unfold gS gV;rw[if_neg QQ,if_neg QQ,if_pos QQ]
theorem QJH{s:ByteArray}(hs:s.size=0):gS s=⟨0,0,3⟩:=by
 unfold gS gV;rw[if_pos hs]
theorem isE(s:ByteArray):s.toList.isEmpty=decide (s.size=0):=by
 rw[ByteArray.toList_eq];have h:s.data.toList.length=s.size:=by rw[Array.length_toList];rfl
 rw[<-h];cases s.data.toList<;>simp
theorem EF{s:ByteArray}{j:Nat}(h:j<s.size):((s[j]'h).toNat:Int)=bt s j:=by
 unfold bt;have h2:j<s.data.toList.length:=QDA;simp[List.getD,h];rfl
end Go.Proofs.YtmdnepkekekncaaGreat
