/- joined, no condition of its own. -/
import Derived.Test.YtmdcencmiopmmaaGreatJnT
import Derived.Test.YtmdcencmiopmmaaGreatJnJ1
import Derived.Test.YtmdcencmiopmmaaGreatJnJ19
import Derived.Test.YtmdcencmiopmmaaGreatJnJ20
import Derived.Test.YtmdcencmiopmmaaGreatJnJ21
set_option linter.unusedVariables false
set_option linter.unusedSimpArgs false
set_option maxRecDepth 100000
set_option maxHeartbeats 12000000
namespace Go.Proofs.YtmdcencmiopmmaaGreat
def place(n f k:Nat):Nat:=if f+k<n then f+k else f+k-n
theorem xf{n f k:Nat}(hf:f<n)(hk:k<=n):place n f k<n\/n=0:=QAi
theorem jX{n f k:Nat}(hf:f<n)(hk:k<=n):(f+k) % n=place n f k:=by
 unfold place;split
 ·exact Nat.mod_eq_of_lt ‹_›
 ·rw[Nat.mod_eq_sub_mod QQ,Nat.mod_eq_of_lt QQ]
end Go.Proofs.YtmdcencmiopmmaaGreat
namespace Go.Proofs.YtmdcencmiopmmaaGreat
open Go.RowKit
def Ux(w:World)(p g n f s:Nat)(slots:List Value):Prop:=
 Za w p #[.slice (some ⟨g,0,none⟩) n n,.int .i64 f,.int .i64 s] 294/\Za w g slots.toArray 26/\slots.length=n/\p≠g/\Ip slots
theorem yP{w:World}{g:Nat}{slots:List Value}{T:TypeId}(h:Za w g slots.toArray T){i:Nat}(hi:i<slots.length):w.cell? ⟨g,i,none⟩=some (vx slots i):=by
 rw[h.cell i];simp[vx,hi]
theorem GJ{w:World}{g:Nat}{slots:List Value}{T:TypeId}(h:Za w g slots.toArray T)(i:Nat)(x:Value):Za (w.setCell ⟨g,i,none⟩ x) g (slots.set i x).toArray T:=by
 have:=h.set i x
 rwa[show slots.toArray.setIfInBounds i x=(slots.set i x).toArray from QJ]at this
def Im(n:Nat)(w:World)(e:Ending)(w':World):Prop:=
 ∃p g,e=.returned (.pointer (some ⟨p,0,none⟩))/\Ux w' p g n 0 0 (List.replicate n (.slice none 0 0))/\w.heap.size<=p/\w.heap.size<=g/\Below w.heap.size w w'
theorem Ow(n:Nat):madeCells #[.slice none 0 0] n=(List.replicate n (Value.slice none 0 0)).toArray:=by
 apply Array.toList_inj.1;rw[toList_madeCells_one]
theorem Te(n:Nat):Ip (List.replicate n (Value.slice none 0 0)):=fun i hi=>by
 refine⟨none,0,0,?_⟩;rw[VY hi];simp
theorem O8(n:Nat)(h1:1<=n)(h2:n<=65536)(w:World):Calls Tryz.prog 196 #[.int .i64 (n:Int)] w (Im n w):=by
 have hm0:=run_make_row' (P:=Tryz.prog) 37 26 (.slice none 0 0) 24 Tryz.underlying37 yJ rfl .i64 .i64 n QQ QQ;have fin:∀(w':World),w'=(w.alloc (.cells (madeCells #[.slice none 0 0] n) 26)).alloc (.cells #[.slice (some ⟨w.heap.size,0,none⟩) n n,.int .i64 0,.int .i64 0] 294)->Im n w (.returned (.pointer (some ⟨w.heap.size+1,0,none⟩))) w':=by
  rintro w' rfl;refine⟨w.heap.size+1,w.heap.size,rfl,⟨?_,?_,QJ,QJ,Te n⟩,QJ,ZB _,Zn _ _ _⟩
  ·have:=Za.new (w.alloc (.cells (madeCells #[.slice none 0 0] n) 26)) #[.slice (some ⟨w.heap.size,0,none⟩) n n,.int .i64 0,.int .i64 0] 294
   rwa[Zv]at this
  ·have:=(Za.new w (madeCells #[.slice none 0 0] n) 26).alloc (.cells #[.slice (some ⟨w.heap.size,0,none⟩) n n,.int .i64 0,.int .i64 0] 294)
   rw[<-Ow n];exact this
 have FIN:=Zy fin;clear fin;have h3:(n:Int)<=65536:=QQ;have h4:(0:Int)<(n:Int):=QQ;go_enter Tryz.func196,Tryz.ntmps196
 go_wp2
 all_goals
  go_ret;exact FIN.out _ rfl
theorem TE(p n f s g k:Nat)(w:World)(slots:List Value)(h:Ux w p g n f s slots)(hf:f<n)(hs:s<=n)(hn:n<=65536)(hk:k<s):
  Calls Tryz.prog 223 #[.pointer (some ⟨p,0,none⟩),.int .i64 k] w fun e w'=>e=.returned (.tuple #[vx slots (place n f k),.bool true])/\∃q,w'=w.drewN q:=by
 obtain⟨hB,hG,hl,-,hS⟩:=h;obtain⟨c0,c1,c2,f0,f1,f2⟩:=hB.three;have hp:=xf hf (show k<=n from QQ);have hm:=jX hf (show k<=n from QQ);have hc:=yP hG (i:=place n f k) QQ;obtain⟨ya,yn,yc,hy⟩:=hS (place n f k) QQ;rw[hy]at hc;rw[hy];obtain⟨j,hj⟩:∃j,j=place n f k:=⟨_,rfl⟩;rw[<-hj]at hp hm hc;clear hj hG hB hl hS hy;have i0:IntKind.i64.wrap ((f:Int)+k)=(f:Int)+k:=YQ _ QQ;have i1:((f:Int)+k).tmod n=j:=by
  rw[Int.tmod_eq_emod_of_nonneg QQ,<-Int.natCast_add,<-Int.natCast_emod,hm]
 have i2:IntKind.i64.wrap (j:Int)=(j:Int):=YQ _ QQ;have i3:(j:Int)<(n:Int):=QQ;have i4:((n:Int)==0)=false:=QY;clear hm;go_enter Tryz.func223,Tryz.ntmps223
 go_wp2
 go_quiet (fail)
 go_wp2;go_ret2
 exact⟨rfl,_,rfl⟩
def QXF(p g j s:Nat)(x:Value)(w:World)(e:Ending)(w':World):Prop:=e=.returned (.tuple #[.slice none 0 0,.bool false])/\∃q,w'=((w.setCell ⟨g,j,none⟩ x).setCell ⟨p,2,none⟩ (.int .i64 ((s+1:Nat):Int))).drewN q
theorem GU(p n f s g:Nat)(xa:Option Addr)(xn xc:Nat)(w:World)(slots:List Value)(h:Ux w p g n f s slots)(hf:f<n)(hs:s<n)(hn:n<=65536):
  Calls Tryz.prog 197 #[.pointer (some ⟨p,0,none⟩),.slice xa xn xc] w (QXF p g (place n f s) s (.slice xa xn xc) w):=by
 obtain⟨hB,hG,hl,hpg,hS⟩:=h;obtain⟨c0,c1,c2,f0,f1,f2⟩:=hB.three;have hp:=xf hf (show s<=n from QQ);have hm:=jX hf (show s<=n from QQ);have hc:=yP hG (i:=place n f s) QQ;have hfr:=hG.free (place n f s);obtain⟨ya,yn,yc,hy⟩:=hS (place n f s) QQ;rw[hy]at hc;obtain⟨j,hj⟩:∃j,j=place n f s:=⟨_,rfl⟩;rw[<-hj]at hp hm hc hfr;rw[<-hj];clear hj hy hS;have i0:IntKind.i64.wrap ((f:Int)+s)=(f:Int)+s:=YQ _ QQ;have i1:((f:Int)+s).tmod n=j:=by
  rw[Int.tmod_eq_emod_of_nonneg QQ,<-Int.natCast_add,<-Int.natCast_emod,hm]
 have i2:IntKind.i64.wrap (j:Int)=(j:Int):=YQ _ QQ;have i3:(j:Int)<(n:Int):=QQ;have i4:((n:Int)==0)=false:=QY;have i5:(s:Int)<(n:Int):=QQ;have hgp:g≠p:=fun e=>hpg e.symm
 clear hm hl hG hB;go_enter Tryz.func197,Tryz.ntmps197
 go_wp2
 go_region
 all_goals go_wp2
 all_goals(go_ret2;exact⟨rfl,1,rfl⟩)
def QXE(p g f f':Nat)(old x:Value)(w:World)(e:Ending)(w':World):Prop:=e=.returned (.tuple #[old,.bool true])/\∃q,w'=((w.setCell ⟨g,f,none⟩ x).setCell ⟨p,1,none⟩ (.int .i64 f')).drewN q
theorem GK(p n f g:Nat)(xa:Option Addr)(xn xc:Nat)(w:World)(slots:List Value)(h:Ux w p g n f n slots)(hf:f<n)(hn:n<=65536):
  Calls Tryz.prog 197 #[.pointer (some ⟨p,0,none⟩),.slice xa xn xc] w (QXE p g f (place n f 1) (vx slots f) (.slice xa xn xc) w):=by
 obtain⟨hB,hG,hl,hpg,hS⟩:=h;obtain⟨c0,c1,c2,f0,f1,f2⟩:=hB.three;have hp:=xf hf (show 1<=n from QQ);have hm:=jX hf (show 1<=n from QQ);have hc:=yP hG (i:=f) QQ;have hfr:=hG.free f;obtain⟨ya,yn,yc,hy⟩:=hS f QQ;rw[hy]at hc;rw[hy];obtain⟨j,hj⟩:∃j,j=place n f 1:=⟨_,rfl⟩;rw[<-hj]at hp hm;rw[<-hj];clear hj hy hS;have i1:((f:Int)+1) % n=j:=by
  rw[show((f:Int)+1)=((f+1:Nat):Int)from QQ,<-Int.natCast_emod,hm]
 have i3:(f:Int)<(n:Int):=QQ;have i4:((n:Int)==0)=false:=QY;have hgp:g≠p:=fun e=>hpg e.symm
 have I1:=Zy i1;clear hm hl hG hB i1;go_enter Tryz.func197,Tryz.ntmps197
 go_wp2
 go_region
 all_goals go_wp2
 all_goals(go_ret2;rw[I1.out];exact⟨rfl,1,rfl⟩)
def K7(n f s:Nat)(slots:List Value):List Value:=(List.range s).map fun k=>vx slots (place n f k)
theorem Y5(n f s:Nat)(slots:List Value):(K7 n f s slots).length=s:=by simp[K7]
theorem Gp{n f s k:Nat}{slots:List Value}(h:k<s):(K7 n f s slots).take (k+1)=(K7 n f s slots).take k++[vx slots (place n f k)]:=by
 rw[XX (by rw[Y5];exact h)];simp[K7]
theorem CR{n f s k:Nat}{slots:List Value}(h:k<s):vx (K7 n f s slots) k=vx slots (place n f k):=by
 rw[VY (by rw[Y5];exact h)];simp[K7]
theorem Ux.below{w w':World}{p g n f s:Nat}{slots:List Value}(h:Ux w p g n f s slots)(hb:Below w.heap.size w w'):Ux w' p g n f s slots:=
 ⟨h.1.below hb h.1.lt,h.2.1.below hb h.2.1.lt,h.2.2⟩
theorem QQM(c:Nat)(hc:c<=65536)(w:World):
  (Instr.makeSlice 37 (.int .i64 0) (.int .i64 (c:Int))).run Tryz.prog w=.ok (.slice (some ⟨w.heap.size,0,none⟩) 0 c) (w.alloc (.cells (madeCells #[.slice none 0 0] c) 26)):=by
 obtain⟨i0,hi,hz0,hz1,hz2⟩:=Xf yJ;have:=run_make (P:=Tryz.prog) w 37 26 i0 (.slice none 0 0) Tryz.underlying37 hi hz0 .i64 .i64 (0:Nat) c QQ QQ (by rw[hz2];omega) QQ;rw[hz1,Xq,Xq,Nat.mul_one]at this;exact this
theorem O9(w:World)(base c:Nat)(hb:base<=w.heap.size)(hc:c<=65536):XT 26 base (w.alloc (.cells (madeCells #[.slice none 0 0] c) 26)) (.slice (some ⟨w.heap.size,0,none⟩) 0 c) []:=
 World.ownsRow_made w _ c hb Qo (by rw[size_madeCells,Nat.mul_one])
def SK(vs:List Value)(w:World)(e:Ending)(w':World):Prop:=∃v,e=.returned v/\XT 26 w.heap.size w' v vs/\Below w.heap.size w w'
theorem Le(p n f s g:Nat)(w:World)(slots:List Value)(h:Ux w p g n f s slots)(hf:f<n)(hs:s<=n)(hn:n<=65536):
  Calls Tryz.prog 198 #[.pointer (some ⟨p,0,none⟩)] w (SK (K7 n f s slots) w):=by
 have hmk:=QQM s QQ;obtain⟨c0,c1,c2,f0,f1,f2⟩:=h.1.three;have hpl:=h.1.lt;have hS:=h.2.2.2.2;have hl:=h.2.2.1;have hSV:∀k,k<s->∃a n' c,vx slots (place n f k)=.slice a n' c:=fun k hk=>hS _ (by have:=xf hf (show k<=n from QQ);omega)
 have HS:=Zy hSV;have H:=Zy h;clear h hS hl hSV;go_enter Tryz.func198,Tryz.ntmps198
 go_wp2
 go_loopw [16,3] (fun i v wr=>∃k:Nat,i=.int .i64 (k:Int)/\k<=s/\XT 26 w.heap.size wr v ((K7 n f s slots).take k)/\Below w.heap.size w wr) (fun i _ _=>s-(intOf i).toNat)
 case atStart=>exact⟨0,rfl,QQ,O9 w w.heap.size s (ZB _) QQ,ZT _ _⟩
 case round=>
  obtain⟨k,rfl,hk,hown,hbel⟩:=hrel;have hlen:((K7 n f s slots).take k).length+1<=4398046511104:=by simp[Y5];omega
  by_cases hlt:k<s
  ·obtain⟨ya,yn,yc,hy⟩:=HS.out k hlt
   have HY:=Zy hy;have HRA:=Zy (TE p n f s g k wr slots (H.out.below hbel) hf hs hn hlt);rw[hy]at HRA;clear hy;go_wp2_with fail
   refine HRA.out.mono ?_;rintro e w1 ⟨rfl,q,hq⟩;have hown1:XT 26 w.heap.size w1 u3 ((K7 n f s slots).take k):=by rw[hq];exact hown.drewN q
   have hb1:Below w.heap.size w w1:=by rw[hq];exact below_drewN hbel q
   have Sv:=Zy (JE w1 [.slice ya yn yc] 26);have HSS:=Zy (show Ip [.slice ya yn yc]from fun i hi=>by
    obtain rfl:i=0:=Qa;exact⟨ya,yn,yc,rfl⟩)
   clear hq;go_wp2_with (at_builtin;refine QYi rfl _ _ rfl w.heap.size u3 _ [.slice ya yn yc] _ 1 1 rfl rfl (hown1.alloc _) Sv.out HSS.out rfl hlen (XG hb1.size _) ?_;intro v2 w2 hown2 hgrow2)
   go_roundw
   case rel=>exact⟨k+1,Qk,QQ,by rw[Gp hlt,HY.out];exact hown2,(hb1.alloc hb1.size _).grown hgrow2 (by have:=hb1.size;simp;omega) hown.row⟩
   case measure=>simp[intOf];omega
  ·obtain rfl:k=s:=by omega
   go_wp2;go_ret;rw[XV (by simp[Y5])]at hown;exact⟨_,rfl,hown,hbel⟩
def yI(p g:Nat)(w w':World):Prop:=w'.heap.size=w.heap.size/\∀B,B≠p->B≠g->w'.heap[B]? =w.heap[B]?
theorem yI.refl(p g:Nat)(w:World):yI p g w w:=⟨rfl,fun _ _ _=>rfl⟩
theorem yI.set{p g:Nat}{w w':World}(h:yI p g w w'){a:Addr}(ha:a.block=p\/a.block=g)(u:Value):yI p g w (w'.setCell a u):=by
 refine⟨by rw[size_setCell];exact h.1,fun B h1 h2=>?_⟩;rw[Zm _ _ _ _ (by rcases ha with e|e<;>rw[e]<;>assumption)];exact h.2 B h1 h2
theorem yI.drewN{p g:Nat}{w w':World}(h:yI p g w w')(n:Nat):yI p g w (w'.drewN n):=h
theorem yI.cell{p g:Nat}{w w':World}(h:yI p g w w'){q:Addr}{v:Value}(h1:q.block≠p)(h2:q.block≠g)(hc:w.cell? q=some v):w'.cell? q=some v:=by
 unfold World.cell? at *;rw[h.2 _ h1 h2];exact hc
theorem yI.blk{p g:Nat}{w w':World}(h:yI p g w w'){B:Nat}{cs:Array Value}{e:TypeId}(h1:B≠p)(h2:B≠g)(hb:Za w B cs e):Za w' B cs e:=by
 unfold Za at *;rw[h.2 _ h1 h2];exact hb
theorem Ux.QY4{w:World}{p g n f s:Nat}{slots:List Value}(h:Ux w p g n f s slots){x:Value}(hx:∃a n c,x=.slice a n c)(q j:Nat):
  Ux (((w.setCell ⟨g,j,none⟩ x).setCell ⟨p,2,none⟩ (.int .i64 ((s+1:Nat):Int))).drewN q) p g n f (s+1) (slots.set j x):=by
 obtain⟨h1,h2,h3,h4,h5⟩:=h;refine⟨?_,?_,by simp[h3],h4,fun i hi=>?_⟩
 ·have:=(h1.other (a:=⟨g,j,none⟩) h4 x).set 2 (.int .i64 ((s+1:Nat):Int))
  simp only[Zj,Zk,Zu]at this;exact this.drewN q
 ·exact(GJ h2 j x).other (a:=⟨p,2,none⟩) (fun e=>h4 e.symm) _
 ·simp only[X4]at hi
  by_cases e:j=i
  ·subst e;rw[Yk hi];exact hx
  ·rw[ZR e];exact h5 i hi
theorem Ux.QY3{w:World}{p g n f s:Nat}{slots:List Value}(h:Ux w p g n f s slots){x:Value}(hx:∃a n c,x=.slice a n c)(q j f':Nat):
  Ux (((w.setCell ⟨g,j,none⟩ x).setCell ⟨p,1,none⟩ (.int .i64 f')).drewN q) p g n f' s (slots.set j x):=by
 obtain⟨h1,h2,h3,h4,h5⟩:=h;refine⟨?_,?_,by simp[h3],h4,fun i hi=>?_⟩
 ·have:=(h1.other (a:=⟨g,j,none⟩) h4 x).set 1 (.int .i64 f')
  simp only[Zj,Zk,Zu]at this;exact this.drewN q
 ·exact(GJ h2 j x).other (a:=⟨p,1,none⟩) (fun e=>h4 e.symm) _
 ·simp only[X4]at hi
  by_cases e:j=i
  ·subst e;rw[Yk hi];exact hx
  ·rw[ZR e];exact h5 i hi
theorem LP{o:Oper}{a:Act}{K:Act->World->Prop}{Q:Exit->Act->World->Prop}{w:World}(s x:Operand)
  (ho:o.op=.call {callee:=.builtin .append,args:=#[s,x],argTypes:=#[37,37]})
  (base:Nat) (v:Value) (vs us:List Value) (ad:Addr) (m c:Nat) (hs:a.eval s=v) (hx:a.eval x=.slice (some ad) m c)
  (hown:XT 26 base w v vs) (hy:J7 w (some ad) us) (Sn:Ip us) (hm:us.length=m) (hl:vs.length+m<=4398046511104) (hbase:base<=w.heap.size)
  (h:∀v' w',XT 26 base w' v' (vs++us)->w.grownBy w' v.ownBlock->(v'.ownBlock=v.ownBlock\/v'.ownBlock=some w.heap.size)->K (a.put o.dst v') w'):
  o.wp Tryz.prog a w K Q:=by
 obtain⟨i0,hi,hz0,hz1,hz2⟩:=Xf yJ;obtain⟨v',w',hr,h2,h3,-,h5⟩:=run_append_own_at (P:=Tryz.prog) w base 37 o.type 26 i0 (.slice none 0 0) 1 24 Tryz.underlying37 hi hz0 hz1 hz2 rfl QZ v vs.length vs hown ad m c us (by simp[hm]) (by
  intro j u hj;have hlt:j<us.length:=by
   rcases Z7 j us.length with h|h
   ·exact h
   ·simp[h]at hj
  obtain⟨b,o',ha,hc⟩:=hy.at hlt;simp only[ZM]at ha;subst ha;have hadd:(⟨b,o',none⟩:Addr).add j=⟨b,o'+j,none⟩:=QN;rw[hadd,hc j hlt,VY hlt];rw[XJ hlt]at hj;exact hj) Sn.mem Qo QQ hbase
 have h2':XT 26 base w' v' (vs++us):=by unfold XT;simpa[hm]using h2
 have h:=h v' w' h2' h3 h5;unfold Oper.wp execOp;simp only[ho,resolve,invoke,builtin,Sem.run_bind,Sem.run_pure,Yr,List.map_toArray,List.map_cons,List.map_nil,hs,hx,hr];exact h
theorem D7{ops:Array Oper}{o:Oper}{a:Act}{K:Act->World->Prop}{Q:Exit->Act->World->Prop}{w:World}{E:Prop}(hw:Region.wanted o (yielded ops a.tmps)=true)(s x:Operand)
  (ho:o.op=.call {callee:=.builtin .append,args:=#[s,x],argTypes:=#[37,37]})
  (base:Nat) (v:Value) (vs us:List Value) (ad:Addr) (m c:Nat) (hs:a.eval s=v) (hx:a.eval x=.slice (some ad) m c)
  (hown:XT 26 base w v vs) (hy:J7 w (some ad) us) (Sn:Ip us) (hm:us.length=m) (hl:vs.length+m<=4398046511104) (hbase:base<=w.heap.size)
  (h:∀v' w',XT 26 base w' v' (vs++us)->w.grownBy w' v.ownBlock->(v'.ownBlock=v.ownBlock\/v'.ownBlock=some w.heap.size)->K (a.put o.dst v') w'):
  if Region.wanted o (yielded ops a.tmps)=true then Oper.wp Tryz.prog o a w K Q else E:=by
 rw[if_pos hw];exact LP s x ho base v vs us ad m c hs hx hown hy Sn hm hl hbase h
theorem XT.TD{e:TypeId}{base:Nat}{w:World}{v:Value}{vs:List Value}(h:XT e base w v vs):Dx (fun k=>v.ownBlock=some k) w v vs:=by
 obtain⟨a,n,c,h1,h2,h3,h4,h5,h6⟩:=h.vs;exact QFQ
theorem Own.sW{e:TypeId}{base:Nat}{w:World}{v:Value}{xs:List Int}(h:Own e base w v xs):Yf (fun k=>v.ownBlock=some k) w v xs:=by
 obtain⟨a,n,c,h1,h2,h3,h4,h5,h6⟩:=h.sl;exact QFQ
theorem Own.OZ{e:TypeId}{base:Nat}{w w':World}{v:Value}{xs:List Int}(h:Own e base w v xs)(h':Own e base w' v xs):Yf (fun k=>base<=k/\k<w.heap.size) w' v xs:=
 h'.sW.imp fun k hk=>XH h k hk
def qg(h:Hi)(xs:List Int):List (List Int):=if xs=[]then h.ls else if h.most<(h.ls.length:Int)+1 then(h.ls++[xs]).drop 1 else h.ls++[xs]
def Wp(h:Hi)(xs:List Int):Hi:=⟨qg h xs,h.most,(qg h xs).length,[],h.pat,h.older⟩
def LX(P:Nat->Prop)(h:Hi)(E:Int)(w:World)(e:Ending)(w':World):Prop:=
 ∃lv sv pv,e=.returned (.tuple #[.agg (X3 lv h.most h.Zi sv pv h.older),.int .i64 E])/\Vw P w' lv h.most h.Zi sv pv h.older h/\Below w.heap.size w w'
def QX4(h:Hi)(xs:List Int)(h':Hi)(E:Int):Prop:=
 (xC h≠0/\h'=hi0/\E=xC h)\/(xC h=0/\200<xs.length/\h'=hi0/\E=2)\/(xC h=0/\xs.length<=200/\h'=Wp h xs/\E=0)
def fE(wr:World)(p g n:Nat)(all:List Value)(k:Nat):Prop:=
 (k<=n/\∃slots,Ux wr p g n 0 k slots/\∀i,i<k->vx slots i=vx all i)\/
 (k=n+1/\∃slots,Ux wr p g n (place n 0 1) n slots/\vx slots 0=vx all n/\∀i,1<=i->i<n->vx slots i=vx all i)
theorem TC{vs us:List Value}(h:vs.length=us.length)(he:∀i,i<vs.length->vx vs i=vx us i):vs=us:=by
 apply List.ext_getElem h;intro i h1 h2;have:=he i h1
 rwa[VY h1,VY h2]at this
theorem fE.list{wr:World}{p g n:Nat}{all:List Value}{k:Nat}(h:fE wr p g n all k)(hk:all.length=k)(hn:1<=n):
  ∃f s slots,Ux wr p g n f s slots/\f<n/\s<=n/\K7 n f s slots=(if n<k then all.drop 1 else all):=by
 rcases h with⟨h1,slots,h2,h3⟩|⟨rfl,slots,h2,h3,h4⟩
 ·refine⟨0,k,slots,h2,QQ,h1,?_⟩
  rw[if_neg QQ];apply TC (by rw[Y5,hk]);intro i hi;rw[Y5]at hi;rw[CR hi,show place n 0 i=i from QAi];exact h3 i hi
 ·refine⟨place n 0 1,n,slots,h2,QAi,ZB _,?_⟩
  rw[if_pos QQ];apply TC (by rw[Y5,Xy];omega);intro i hi;rw[Y5]at hi;rw[CR hi,DD];by_cases h0:i=n-1
  ·have:place n (place n 0 1) i=0:=by unfold place;split<;>split<;>omega
   rw[this,h3];congr 1;omega
  ·have:place n (place n 0 1) i=1+i:=by unfold place;split<;>split<;>omega
   rw[this];exact h4 (1+i) QQ QQ
theorem FY(lv:Value)(most Zi:Int)(sv pv:Value)(older:Bool)(ls:List (List Int))(M W:Int)(XQ pat:List Int)(O:Bool)(a:Option Addr)(nn c:Nat)(w:World)(r:WB w lv most Zi sv pv older ⟨ls,M,W,XQ,pat,O⟩)(E:Int)(hE:xC ⟨ls,M,W,XQ,pat,O⟩=E)(h0:E≠0)(P:Nat->Prop):
  Calls Tryz.prog 133 #[.agg (X3 lv most Zi sv pv older),.slice a nn c] w (LX P hi0 E w):=by
 have HE:=Zy hE;have h0':(E !=0)=true:=Q7;have Ja:=Zy r;clear hE h0;obtain⟨⟨vs,hvs,hls⟩,h1,h2,Xl,Xm,h3⟩:=r;simp only at hls h1 h2 h3 Xl Xm;obtain rfl:M=most:=h1.symm;obtain rfl:W=Zi:=h2.symm;obtain rfl:O=older:=h3.symm;obtain⟨la,ln,lc,rfl,hl1,hl2,hl3,hl4,hl5⟩:=hvs;obtain⟨sa,sn,sc,rfl,hs1,hs2,hs3,hs4,hs5⟩:=Xl;obtain⟨pa,pn,pc,rfl,hp1,hp2,hp3,xQ,Uv⟩:=Xm;have hll:ls.length=ln:=Qq;have V7:=Zy (fun W' r=>Vz (.slice la ln lc) M W (.slice sa sn sc) (.slice pa pn pc) O ⟨ls,M,W,XQ,pat,O⟩ W' r);unfold X3 at *;have hB:=(Za.new w #[.slice la ln lc,.int .i64 M,.int .i64 W,.slice sa sn sc,.slice pa pn pc,.bool O] 65).alloc (.cells #[.slice none 0 0,.int .i64 0,.int .i64 0,.slice none 0 0,.slice none 0 0,.bool false] 65);have hR:=Za.new (w.alloc (.cells #[.slice la ln lc,.int .i64 M,.int .i64 W,.slice sa sn sc,.slice pa pn pc,.bool O] 65)) #[.slice none 0 0,.int .i64 0,.int .i64 0,.slice none 0 0,.slice none 0 0,.bool false] 65;rw[Zv]at hR;have hacc:=Zn w (.cells #[.slice la ln lc,.int .i64 M,.int .i64 W,.slice sa sn sc,.slice pa pn pc,.bool O] 65) (.cells #[.slice none 0 0,.int .i64 0,.int .i64 0,.slice none 0 0,.slice none 0 0,.bool false] 65);have hsz:w.heap.size+2<=((w.alloc (.cells #[.slice la ln lc,.int .i64 M,.int .i64 W,.slice sa sn sc,.slice pa pn pc,.bool O] 65)).alloc (.cells #[.slice none 0 0,.int .i64 0,.int .i64 0,.slice none 0 0,.slice none 0 0,.bool false] 65)).heap.size:=QJ;have HR1:=Zy (Ja.out.below hacc);clear hs1 hp1 hl1 hl5 hs5 Uv hll hls Ja;go_enter Tryz.func133,Tryz.ntmps133
 go_upto_region 1 with fail
 change Code.wp _ _ _ _ ((w.alloc (.cells #[.slice la ln lc,.int .i64 M,.int .i64 W,.slice sa sn sc,.slice pa pn pc,.bool O] 65)).alloc (.cells #[.slice none 0 0,.int .i64 0,.int .i64 0,.slice none 0 0,.slice none 0 0,.bool false] 65));generalize((w.alloc (.cells #[.slice la ln lc,.int .i64 M,.int .i64 W,.slice sa sn sc,.slice pa pn pc,.bool O] 65)).alloc (.cells #[.slice none 0 0,.int .i64 0,.int .i64 0,.slice none 0 0,.slice none 0 0,.bool false] 65))=w1 at *;obtain⟨c0,c1,c2,c3,c4,c5⟩:=hB.six;go_wp2_with ((go_at_call 194);refine(V7.out _ HR1.out).mono ?_;rintro e wc ⟨rfl,hb2⟩;rw[HE.out];have hB2:=hB.below hb2 hB.lt;obtain⟨d0,d1,d2,d3,d4,d5⟩:=hB2.six;have hR2:=hR.below hb2 hR.lt;obtain⟨p0,p1,p2,p3,p4,p5⟩:=hR2.six;obtain⟨t0,t1,t2,t3,t4,t5⟩:=hR2.Yy;have Z4:=ZE hacc QQ hb2;have hlt2:=hB2.lt;have hz2:=hb2.size)
 obtain⟨y0,y1,y2,y3,y4,y5⟩:=(hR2.six' (.slice none 0 0) (.int .i64 0) (.int .i64 0) (.slice none 0 0) (.slice none 0 0) (.bool false)).six;refine ZC (v:=.tuple #[.agg (X3 (.slice none 0 0) 0 0 (.slice none 0 0) (.slice none 0 0) false),.int .i64 (E)]) Zq rfl ?_;exact⟨_,_,_,rfl,xX _ _,Jd Z4 (ZA _)⟩
theorem Aj(lv:Value)(most Zi:Int)(sv pv:Value)(older:Bool)(ls:List (List Int))(M W:Int)(XQ pat:List Int)(O:Bool)(a:Option Addr)(nn c:Nat)(w:World)(r:WB w lv most Zi sv pv older ⟨ls,M,W,XQ,pat,O⟩)(hE:xC ⟨ls,M,W,XQ,pat,O⟩=0)(h0:200<nn)(P:Nat->Prop):
  Calls Tryz.prog 133 #[.agg (X3 lv most Zi sv pv older),.slice a nn c] w (LX P hi0 2 w):=by
 have HE:=Zy hE;have Ja:=Zy r;clear hE;obtain⟨⟨vs,hvs,hls⟩,h1,h2,Xl,Xm,h3⟩:=r;simp only at hls h1 h2 h3 Xl Xm;obtain rfl:M=most:=h1.symm;obtain rfl:W=Zi:=h2.symm;obtain rfl:O=older:=h3.symm;obtain⟨la,ln,lc,rfl,hl1,hl2,hl3,hl4,hl5⟩:=hvs;obtain⟨sa,sn,sc,rfl,hs1,hs2,hs3,hs4,hs5⟩:=Xl;obtain⟨pa,pn,pc,rfl,hp1,hp2,hp3,xQ,Uv⟩:=Xm;have hll:ls.length=ln:=Qq;have V7:=Zy (fun W' r=>Vz (.slice la ln lc) M W (.slice sa sn sc) (.slice pa pn pc) O ⟨ls,M,W,XQ,pat,O⟩ W' r);unfold X3 at *;have hB:=(Za.new w #[.slice la ln lc,.int .i64 M,.int .i64 W,.slice sa sn sc,.slice pa pn pc,.bool O] 65).alloc (.cells #[.slice none 0 0,.int .i64 0,.int .i64 0,.slice none 0 0,.slice none 0 0,.bool false] 65);have hR:=Za.new (w.alloc (.cells #[.slice la ln lc,.int .i64 M,.int .i64 W,.slice sa sn sc,.slice pa pn pc,.bool O] 65)) #[.slice none 0 0,.int .i64 0,.int .i64 0,.slice none 0 0,.slice none 0 0,.bool false] 65;rw[Zv]at hR;have hacc:=Zn w (.cells #[.slice la ln lc,.int .i64 M,.int .i64 W,.slice sa sn sc,.slice pa pn pc,.bool O] 65) (.cells #[.slice none 0 0,.int .i64 0,.int .i64 0,.slice none 0 0,.slice none 0 0,.bool false] 65);have hsz:w.heap.size+2<=((w.alloc (.cells #[.slice la ln lc,.int .i64 M,.int .i64 W,.slice sa sn sc,.slice pa pn pc,.bool O] 65)).alloc (.cells #[.slice none 0 0,.int .i64 0,.int .i64 0,.slice none 0 0,.slice none 0 0,.bool false] 65)).heap.size:=QJ;have HR1:=Zy (Ja.out.below hacc);clear hs1 hp1 hl1 hl5 hs5 Uv hll hls Ja;go_enter Tryz.func133,Tryz.ntmps133
 go_upto_region 1 with fail
 change Code.wp _ _ _ _ ((w.alloc (.cells #[.slice la ln lc,.int .i64 M,.int .i64 W,.slice sa sn sc,.slice pa pn pc,.bool O] 65)).alloc (.cells #[.slice none 0 0,.int .i64 0,.int .i64 0,.slice none 0 0,.slice none 0 0,.bool false] 65));generalize((w.alloc (.cells #[.slice la ln lc,.int .i64 M,.int .i64 W,.slice sa sn sc,.slice pa pn pc,.bool O] 65)).alloc (.cells #[.slice none 0 0,.int .i64 0,.int .i64 0,.slice none 0 0,.slice none 0 0,.bool false] 65))=w1 at *;obtain⟨c0,c1,c2,c3,c4,c5⟩:=hB.six;go_wp2_with ((go_at_call 194);refine(V7.out _ HR1.out).mono ?_;rintro e wc ⟨rfl,hb2⟩;rw[HE.out];have hB2:=hB.below hb2 hB.lt;obtain⟨d0,d1,d2,d3,d4,d5⟩:=hB2.six;have hR2:=hR.below hb2 hR.lt;obtain⟨p0,p1,p2,p3,p4,p5⟩:=hR2.six;obtain⟨t0,t1,t2,t3,t4,t5⟩:=hR2.Yy;have Z4:=ZE hacc QQ hb2;have hlt2:=hB2.lt;have hz2:=hb2.size)
 obtain⟨y0,y1,y2,y3,y4,y5⟩:=(hR2.six' (.slice none 0 0) (.int .i64 0) (.int .i64 0) (.slice none 0 0) (.slice none 0 0) (.bool false)).six;refine ZC (v:=.tuple #[.agg (X3 (.slice none 0 0) 0 0 (.slice none 0 0) (.slice none 0 0) false),.int .i64 (2)]) Zq rfl ?_;exact⟨_,_,_,rfl,xX _ _,Jd Z4 (ZA _)⟩
theorem Ak(lv:Value)(most Zi:Int)(sv pv:Value)(older:Bool)(ls:List (List Int))(M W:Int)(XQ pat:List Int)(O:Bool)(a:Option Addr)(nn c:Nat)(w:World)(r:WB w lv most Zi sv pv older ⟨ls,M,W,XQ,pat,O⟩)(xs:List Int)(hE:xC ⟨ls,M,W,XQ,pat,O⟩=0)(hx:Ints w a xs)(JK:xs.length=nn)(hx0:a=none->nn=0)(hnn:nn<=200)(h0:nn=0):
  Calls Tryz.prog 133 #[.agg (X3 lv most Zi sv pv older),.slice a nn c] w (LX (fun k=>w.heap.size<=k) (Wp ⟨ls,M,W,XQ,pat,O⟩ xs) 0 w):=by
 have hok:=We hE;have HE:=Zy hE;have Ja:=Zy r;have hm1:1<=M:=hok.Hm;have hm2:M<=50:=hok.UQ;have hlm:(ls.length:Int)<=M:=hok.len;have jf:=Zy JK;have HX0:=Zy hx0;have Nh:=Zy hok.lines;have fO:=Zy hok.XQ;have fP:=Zy hok.pat;clear hE hok JK hx0;obtain⟨⟨vs,hvs,hls⟩,h1,h2,Xl,Xm,h3⟩:=r;simp only at hls h1 h2 h3 Xl Xm;obtain rfl:M=most:=h1.symm;obtain rfl:W=Zi:=h2.symm;obtain rfl:O=older:=h3.symm;obtain⟨la,ln,lc,rfl,hl1,hl2,hl3,hl4,hl5⟩:=hvs;obtain⟨sa,sn,sc,rfl,hs1,hs2,hs3,hs4,hs5⟩:=Xl;obtain⟨pa,pn,pc,rfl,hp1,hp2,hp3,xQ,Uv⟩:=Xm;have hll:ls.length=ln:=Qq;have V7:=Zy (fun W' r=>Vz (.slice la ln lc) M W (.slice sa sn sc) (.slice pa pn pc) O ⟨ls,M,W,XQ,pat,O⟩ W' r);have jg:=Zy (fun W' r=>Ki (.slice la ln lc) M W (.slice sa sn sc) (.slice pa pn pc) O ⟨ls,M,W,XQ,pat,O⟩ W' r (by show ls.length<=50;omega) Nh.out fO.out fP.out);rw[hll]at hlm;obtain rfl:nn=0:=h0;have kT:=Zy hll;unfold X3 at *;have hB:=(Za.new w #[.slice la ln lc,.int .i64 M,.int .i64 W,.slice sa sn sc,.slice pa pn pc,.bool O] 65).alloc (.cells #[.slice none 0 0,.int .i64 0,.int .i64 0,.slice none 0 0,.slice none 0 0,.bool false] 65);have hR:=Za.new (w.alloc (.cells #[.slice la ln lc,.int .i64 M,.int .i64 W,.slice sa sn sc,.slice pa pn pc,.bool O] 65)) #[.slice none 0 0,.int .i64 0,.int .i64 0,.slice none 0 0,.slice none 0 0,.bool false] 65;rw[Zv]at hR;have hacc:=Zn w (.cells #[.slice la ln lc,.int .i64 M,.int .i64 W,.slice sa sn sc,.slice pa pn pc,.bool O] 65) (.cells #[.slice none 0 0,.int .i64 0,.int .i64 0,.slice none 0 0,.slice none 0 0,.bool false] 65);have hsz:w.heap.size+2<=((w.alloc (.cells #[.slice la ln lc,.int .i64 M,.int .i64 W,.slice sa sn sc,.slice pa pn pc,.bool O] 65)).alloc (.cells #[.slice none 0 0,.int .i64 0,.int .i64 0,.slice none 0 0,.slice none 0 0,.bool false] 65)).heap.size:=QJ;have HR1:=Zy (Ja.out.below hacc);clear hs1 hp1 hl1 hl5 hs5 Uv hll hls Ja;go_enter Tryz.func133,Tryz.ntmps133
 go_upto_region 1 with fail
 change Code.wp _ _ _ _ ((w.alloc (.cells #[.slice la ln lc,.int .i64 M,.int .i64 W,.slice sa sn sc,.slice pa pn pc,.bool O] 65)).alloc (.cells #[.slice none 0 0,.int .i64 0,.int .i64 0,.slice none 0 0,.slice none 0 0,.bool false] 65));generalize((w.alloc (.cells #[.slice la ln lc,.int .i64 M,.int .i64 W,.slice sa sn sc,.slice pa pn pc,.bool O] 65)).alloc (.cells #[.slice none 0 0,.int .i64 0,.int .i64 0,.slice none 0 0,.slice none 0 0,.bool false] 65))=w1 at *;obtain⟨c0,c1,c2,c3,c4,c5⟩:=hB.six;go_wp2_with ((go_at_call 194);refine(V7.out _ HR1.out).mono ?_;rintro e wc ⟨rfl,hb2⟩;rw[HE.out];have hB2:=hB.below hb2 hB.lt;obtain⟨d0,d1,d2,d3,d4,d5⟩:=hB2.six;have hR2:=hR.below hb2 hR.lt;obtain⟨p0,p1,p2,p3,p4,p5⟩:=hR2.six;obtain⟨t0,t1,t2,t3,t4,t5⟩:=hR2.Yy;have Z4:=ZE hacc QQ hb2;have hlt2:=hB2.lt;have hz2:=hb2.size;have HR2:=Zy (HR1.out.below hb2))
 refine(jg.out _ HR2.out).mono ?_;rintro e w2 ⟨Ov,lQ,lC,vs2,rfl,ho2,qP,os2,EE,hb3⟩;obtain⟨ra,rn,rc,rfl⟩:=ho2.form;obtain⟨ta,tn,tc,rfl⟩:=os2.form;obtain⟨ua,un,uc,rfl⟩:=EE.form;have Ji:=ZE Z4 QQ hb3;have hB3:=hB2.below hb3 hB2.lt;have Vr:=hR2.below hb3 hR2.lt;have hz3:=hb3.size;have cO:=ho2.mono (base':=w.heap.size+2) QQ;have IY:=qP.imp (base':=w.heap.size+2) fun _ _ k=>k.mono QQ
 have bW:=EE.mono (base':=w.heap.size+2) QQ;have xF:=Zy cO;have BQ:=Zy IY;have fT:=Zy bW;simp only[X3];clear ho2 qP os2 EE cO IY bW c0 c1 c2 c3 c4 c5 d0 d1 d2 d3 d4 d5 p0 p1 p2 p3 p4 p5 t0 t1 t2 t3 t4 t5;have nA:=Za.new w2 #[.slice ra rn rc,.int .i64 M,.int .i64 W,.slice ta tn tc,.slice ua un uc,.bool O] 65;have hk3:=ZT w2 (.cells #[.slice ra rn rc,.int .i64 M,.int .i64 W,.slice ta tn tc,.slice ua un uc,.bool O] 65);have Ct:(w2.alloc (.cells #[.slice ra rn rc,.int .i64 M,.int .i64 W,.slice ta tn tc,.slice ua un uc,.bool O] 65)).heap.size=w2.heap.size+1:=QJ;have hB4:=hB3.alloc (.cells #[.slice ra rn rc,.int .i64 M,.int .i64 W,.slice ta tn tc,.slice ua un uc,.bool O] 65);have hR4:=Vr.alloc (.cells #[.slice ra rn rc,.int .i64 M,.int .i64 W,.slice ta tn tc,.slice ua un uc,.bool O] 65);go_upto_region 7 with fail
 change Code.wp _ _ _ _ (w2.alloc (.cells #[.slice ra rn rc,.int .i64 M,.int .i64 W,.slice ta tn tc,.slice ua un uc,.bool O] 65));generalize(w2.alloc (.cells #[.slice ra rn rc,.int .i64 M,.int .i64 W,.slice ta tn tc,.slice ua un uc,.bool O] 65))=w3 at *;have Vy:=ZE Ji QQ hk3;obtain⟨n0,n1,n2,n3,n4,n5⟩:=nA.six;obtain⟨m0,m1,m2,m3,m4,m5⟩:=nA.Yy;have QVr:=(xF.out.kept hk3).TD;have hrl:rn=ls.length:=by
  have h1:=xF.out.vs.get.1;have h2:vs2.length=ls.length:=BQ.out.1;omega
 have HRL:=Zy hrl;clear QVr hrl;obtain⟨p0,p1,p2,p3,p4,p5⟩:=hR4.six;obtain⟨t0,t1,t2,t3,t4,t5⟩:=hR4.Yy;go_wp2;have KF:=(hR4.other (a:=⟨w2.heap.size,2,none⟩) Q5 (.int .i64 (rn:Int))).other (a:=⟨w2.heap.size,3,none⟩) Q5 (.slice none 0 0);obtain⟨y0,y1,y2,y3,y4,y5⟩:=(KF.six' (.slice ra rn rc) (.int .i64 M) (.int .i64 (rn:Int)) (.slice none 0 0) (.slice ua un uc) (.bool O)).six;refine ZC (v:=.tuple #[.agg (X3 (.slice ra rn rc) M (rn:Int) (.slice none 0 0) (.slice ua un uc) O),.int .i64 0]) Zq rfl ?_;have hxs:xs=[]:=Ze jf.out;have hAH:Wp ⟨ls,M,W,XQ,pat,O⟩ xs=⟨ls,M,(rn:Int),[],pat,O⟩:=by
  unfold Wp qg;rw[if_pos hxs,HRL.out]
 rw[hAH];have Y7:=(Vy.setCell (p:=⟨w2.heap.size,2,none⟩) Qv (.int .i64 (rn:Int))).setCell (p:=⟨w2.heap.size,3,none⟩) Qv (.slice none 0 0);have hcl:=fun(q:Addr) (v:Value) (hq:w.heap.size+2<=q.block/\q.block<w2.heap.size) (hc:w3.cell? q=some v)=>
  Oe (B:=w.heap.size+1) (u0:=.slice ra rn rc) (u1:=.int .i64 M) (u2:=.int .i64 (rn:Int)) (u3:=.slice none 0 0) (u4:=.slice ua un uc) (u5:=.bool O) (Zr (Zr hc (a:=⟨w2.heap.size,2,none⟩) (u:=.int .i64 (rn:Int)) (by show q.block≠w2.heap.size;omega)) (a:=⟨w2.heap.size,3,none⟩) (u:=.slice none 0 0) (by show q.block≠w2.heap.size;omega)) QQ
 exact⟨_,_,_,rfl,⟨⟨vs2,((xF.out.kept hk3).TD.imp (Q:=fun k=>w.heap.size+2<=k/\k<w2.heap.size) (fun k hk=>XH xF.out k hk)).keep hcl |>.imp (fun k hk=>QQ),⟨BQ.out.1,fun i hi=>(((BQ.out.2 i hi).OZ ((BQ.out.2 i hi).kept hk3)).keep hcl).imp (fun k hk=>QQ)⟩⟩,rfl,rfl,Yf.nil _ _,((fT.out.OZ (fT.out.kept hk3)).keep hcl).imp (fun k hk=>QQ),rfl⟩,Jd Y7 (ZA _)⟩
def PM(c:Int):Bool:=decide ((0<=c/\c<55296)\/(57343<c/\c<=1114111))
theorem uS(c:Int)(w:World):Calls Tryz.prog 94 #[.int .i64 c] w fun e w'=>e=.returned (.bool (PM c))/\w=w':=by
 go_enter Tryz.func94,Tryz.ntmps94
 go_wp2
 all_goals
  go_ret;refine⟨Yu ?_,rfl⟩;rw[Bool.eq_iff_iff];simp[PM]
  try omega
def Pw(n:Int):Int:=if n=2 then 128 else if n=3 then 2048 else if n=4 then 65536 else 0
theorem Cu(n:Int)(w:World):Calls Tryz.prog 220 #[.int .i64 n] w fun e w'=>e=.returned (.int .i64 (Pw n))/\w=w':=by
 go_enter Tryz.func220,Tryz.ntmps220
 go_wp2
 all_goals
  go_ret;refine⟨XA ?_,rfl⟩;simp_all[Pw]
def mG(b:Int):Int:=if b<128 then 1 else if b<192 then 0 else if b<224 then 2 else if b<240 then 3 else if b<248 then 4 else 0
def ldC(b:Int):Int:=if b<128 then b else if b<192 then 0 else if b<224 then b % 32 else if b<240 then b % 16 else if b<248 then b % 8 else 0
theorem uT(b:Int)(h0:0<=b)(h1:b<=255)(w:World):Calls Tryz.prog 219 #[.int .u8 b] w fun e w'=>e=.returned (.tuple #[.int .i64 (mG b),.int .i64 (ldC b)])/\w=w':=by
 have HN:=Zy (show mG b=_ from rfl);have HC:=Zy (show ldC b=_ from rfl);go_enter Tryz.func219,Tryz.ntmps219
 go_wp2
 all_goals
  go_ret2
  refine⟨YA Ending.returned (YA Value.tuple (show#[Value.int .i64 _,Value.int .i64 _]=_ from ?_)),rfl⟩;unfold mG ldC
  repeat' split
  all_goals first|rfl|(exfalso;omega)
def onV(b:Int):Int:=if b<128 then 0 else if b<192 then 1 else if b<224 then 2 else if b<240 then 3 else if b<248 then 4 else if b<252 then 5 else if b<254 then 6 else if b<255 then 7 else 8
end Go.Proofs.YtmdcencmiopmmaaGreat
