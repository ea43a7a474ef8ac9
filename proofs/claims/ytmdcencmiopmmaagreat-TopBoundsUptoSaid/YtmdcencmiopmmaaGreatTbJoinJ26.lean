/- LiftTopBounds: joined, no condition of its own. -/
import Derived.Test.YtmdcencmiopmmaaGreatTbJoinT
import Derived.Test.YtmdcencmiopmmaaGreatTbJoinJ1
import Derived.Test.YtmdcencmiopmmaaGreatTbJoinJ8
import Derived.Test.YtmdcencmiopmmaaGreatTbJoinJ19
import Derived.Test.YtmdcencmiopmmaaGreatTbJoinJ20
set_option linter.unusedVariables false
set_option linter.unusedSimpArgs false
set_option maxRecDepth 100000
set_option maxHeartbeats 12000000
namespace Go.Proofs.YtmdcencmiopmmaaGreat
def place(n f k:Nat):Nat:=if f+k<n then f+k else f+k-n
theorem qH{n f k:Nat}(hf:f<n)(hk:k<=n):place n f k<n\/n=0:=by unfold place;split<;>omega
theorem zF{n f k:Nat}(hf:f<n)(hk:k<=n):(f+k) % n=place n f k:=by
 unfold place;split
 ·exact Nat.mod_eq_of_lt ‹_›
 ·rw[Nat.mod_eq_sub_mod (by omega),Nat.mod_eq_of_lt (by omega)]
end Go.Proofs.YtmdcencmiopmmaaGreat
namespace Go.Proofs.YtmdcencmiopmmaaGreat
open Go.RowKit
def Jc(w:World)(p g n f s:Nat)(slots:List Value):Prop:=
 QD w p #[.slice (some ⟨g,0,none⟩) n n,.int .i64 f,.int .i64 s] 294/\QD w g slots.toArray 26/\slots.length=n/\p≠g/\FD slots
theorem zq{w:World}{g:Nat}{slots:List Value}{T:TypeId}(h:QD w g slots.toArray T){i:Nat}(hi:i<slots.length):w.cell? ⟨g,i,none⟩=some (vx slots i):=by
 rw[h.cell i];simp[vx,hi]
theorem Dh{w:World}{g:Nat}{slots:List Value}{T:TypeId}(h:QD w g slots.toArray T)(i:Nat)(x:Value):QD (w.setCell ⟨g,i,none⟩ x) g (slots.set i x).toArray T:=by
 have:=h.set i x
 rwa[show slots.toArray.setIfInBounds i x=(slots.set i x).toArray from by simp]at this
def FB(n:Nat)(w:World)(e:Ending)(w':World):Prop:=
 ∃p g,e=.returned (.pointer (some ⟨p,0,none⟩))/\Jc w' p g n 0 0 (List.replicate n (.slice none 0 0))/\w.heap.size<=p/\w.heap.size<=g/\Below w.heap.size w w'
theorem Mc(n:Nat):madeCells #[.slice none 0 0] n=(List.replicate n (Value.slice none 0 0)).toArray:=by
 apply Array.toList_inj.1;rw[toList_madeCells_one]
theorem P5(n:Nat):FD (List.replicate n (Value.slice none 0 0)):=fun i hi=>by
 refine⟨none,0,0,?_⟩;rw[UQ hi];simp
theorem MR(n:Nat)(h1:1<=n)(h2:n<=65536)(w:World):Calls Tryz.prog 196 #[.int .i64 (n:Int)] w (FB n w):=by
 have hm0:=run_make_row' (P:=Tryz.prog) 37 26 (.slice none 0 0) 24 Tryz.underlying37 qb rfl .i64 .i64 n (by omega) (by omega);have fin:∀(w':World),w'=(w.alloc (.cells (madeCells #[.slice none 0 0] n) 26)).alloc (.cells #[.slice (some ⟨w.heap.size,0,none⟩) n n,.int .i64 0,.int .i64 0] 294)->FB n w (.returned (.pointer (some ⟨w.heap.size+1,0,none⟩))) w':=by
  rintro w' rfl;refine⟨w.heap.size+1,w.heap.size,rfl,⟨?_,?_,by simp,by simp,P5 n⟩,by simp,QU _,QS _ _ _⟩
  ·have:=QD.new (w.alloc (.cells (madeCells #[.slice none 0 0] n) 26)) #[.slice (some ⟨w.heap.size,0,none⟩) n n,.int .i64 0,.int .i64 0] 294
   rwa[QJ]at this
  ·have:=(QD.new w (madeCells #[.slice none 0 0] n) 26).alloc (.cells #[.slice (some ⟨w.heap.size,0,none⟩) n n,.int .i64 0,.int .i64 0] 294)
   rw[<-Mc n];exact this
 have FIN:=QQ fin;clear fin;have h3:(n:Int)<=65536:=by omega
 have h4:(0:Int)<(n:Int):=by omega
 go_enter Tryz.func196,Tryz.ntmps196
 go_wp2
 all_goals
  go_ret;exact FIN.out _ rfl
theorem PO(p n f s g k:Nat)(w:World)(slots:List Value)(h:Jc w p g n f s slots)(hf:f<n)(hs:s<=n)(hn:n<=65536)(hk:k<s):
  Calls Tryz.prog 223 #[.pointer (some ⟨p,0,none⟩),.int .i64 k] w fun e w'=>e=.returned (.tuple #[vx slots (place n f k),.bool true])/\∃q,w'=w.drewN q:=by
 obtain⟨hB,hG,hl,-,hS⟩:=h;obtain⟨c0,c1,c2,f0,f1,f2⟩:=hB.three;have hp:=qH hf (show k<=n by omega);have hm:=zF hf (show k<=n by omega);have hc:=zq hG (i:=place n f k) (by omega);obtain⟨ya,yn,yc,hy⟩:=hS (place n f k) (by omega);rw[hy]at hc;rw[hy];obtain⟨j,hj⟩:∃j,j=place n f k:=⟨_,rfl⟩;rw[<-hj]at hp hm hc;clear hj hG hB hl hS hy;have i0:IntKind.i64.wrap ((f:Int)+k)=(f:Int)+k:=Zl _ (by omega);have i1:((f:Int)+k).tmod n=j:=by
  rw[Int.tmod_eq_emod_of_nonneg (by omega),<-Int.natCast_add,<-Int.natCast_emod,hm]
 have i2:IntKind.i64.wrap (j:Int)=(j:Int):=Zl _ (by omega);have i3:(j:Int)<(n:Int):=by omega
 have i4:((n:Int)==0)=false:=by simp;omega
 clear hm;go_enter Tryz.func223,Tryz.ntmps223
 go_wp2
 go_quiet (fail)
 go_wp2;go_ret2
 exact⟨rfl,_,rfl⟩
def QQX(p g j s:Nat)(x:Value)(w:World)(e:Ending)(w':World):Prop:=e=.returned (.tuple #[.slice none 0 0,.bool false])/\∃q,w'=((w.setCell ⟨g,j,none⟩ x).setCell ⟨p,2,none⟩ (.int .i64 ((s+1:Nat):Int))).drewN q
theorem Dl(p n f s g:Nat)(xa:Option Addr)(xn xc:Nat)(w:World)(slots:List Value)(h:Jc w p g n f s slots)(hf:f<n)(hs:s<n)(hn:n<=65536):
  Calls Tryz.prog 197 #[.pointer (some ⟨p,0,none⟩),.slice xa xn xc] w (QQX p g (place n f s) s (.slice xa xn xc) w):=by
 obtain⟨hB,hG,hl,hpg,hS⟩:=h;obtain⟨c0,c1,c2,f0,f1,f2⟩:=hB.three;have hp:=qH hf (show s<=n by omega);have hm:=zF hf (show s<=n by omega);have hc:=zq hG (i:=place n f s) (by omega);have hfr:=hG.free (place n f s);obtain⟨ya,yn,yc,hy⟩:=hS (place n f s) (by omega);rw[hy]at hc;obtain⟨j,hj⟩:∃j,j=place n f s:=⟨_,rfl⟩;rw[<-hj]at hp hm hc hfr;rw[<-hj];clear hj hy hS;have i0:IntKind.i64.wrap ((f:Int)+s)=(f:Int)+s:=Zl _ (by omega);have i1:((f:Int)+s).tmod n=j:=by
  rw[Int.tmod_eq_emod_of_nonneg (by omega),<-Int.natCast_add,<-Int.natCast_emod,hm]
 have i2:IntKind.i64.wrap (j:Int)=(j:Int):=Zl _ (by omega);have i3:(j:Int)<(n:Int):=by omega
 have i4:((n:Int)==0)=false:=by simp;omega
 have i5:(s:Int)<(n:Int):=by omega
 have hgp:g≠p:=fun e=>hpg e.symm
 clear hm hl hG hB;go_enter Tryz.func197,Tryz.ntmps197
 go_wp2
 go_region
 all_goals go_wp2
 all_goals(go_ret2;exact⟨rfl,1,rfl⟩)
def QQZ(p g f f':Nat)(old x:Value)(w:World)(e:Ending)(w':World):Prop:=e=.returned (.tuple #[old,.bool true])/\∃q,w'=((w.setCell ⟨g,f,none⟩ x).setCell ⟨p,1,none⟩ (.int .i64 f')).drewN q
theorem Di(p n f g:Nat)(xa:Option Addr)(xn xc:Nat)(w:World)(slots:List Value)(h:Jc w p g n f n slots)(hf:f<n)(hn:n<=65536):
  Calls Tryz.prog 197 #[.pointer (some ⟨p,0,none⟩),.slice xa xn xc] w (QQZ p g f (place n f 1) (vx slots f) (.slice xa xn xc) w):=by
 obtain⟨hB,hG,hl,hpg,hS⟩:=h;obtain⟨c0,c1,c2,f0,f1,f2⟩:=hB.three;have hp:=qH hf (show 1<=n by omega);have hm:=zF hf (show 1<=n by omega);have hc:=zq hG (i:=f) (by omega);have hfr:=hG.free f;obtain⟨ya,yn,yc,hy⟩:=hS f (by omega);rw[hy]at hc;rw[hy];obtain⟨j,hj⟩:∃j,j=place n f 1:=⟨_,rfl⟩;rw[<-hj]at hp hm;rw[<-hj];clear hj hy hS;have i1:((f:Int)+1) % n=j:=by
  rw[show((f:Int)+1)=((f+1:Nat):Int)from by omega,<-Int.natCast_emod,hm]
 have i3:(f:Int)<(n:Int):=by omega
 have i4:((n:Int)==0)=false:=by simp;omega
 have hgp:g≠p:=fun e=>hpg e.symm
 have I1:=QQ i1;clear hm hl hG hB i1;go_enter Tryz.func197,Tryz.ntmps197
 go_wp2
 go_region
 all_goals go_wp2
 all_goals(go_ret2;rw[I1.out];exact⟨rfl,1,rfl⟩)
def JD(n f s:Nat)(slots:List Value):List Value:=(List.range s).map fun k=>vx slots (place n f k)
theorem Xf(n f s:Nat)(slots:List Value):(JD n f s slots).length=s:=by simp[JD]
theorem EA{n f s k:Nat}{slots:List Value}(h:k<s):(JD n f s slots).take (k+1)=(JD n f s slots).take k++[vx slots (place n f k)]:=by
 rw[Qo (by rw[Xf];exact h)];simp[JD]
theorem AZ{n f s k:Nat}{slots:List Value}(h:k<s):vx (JD n f s slots) k=vx slots (place n f k):=by
 rw[UQ (by rw[Xf];exact h)];simp[JD]
theorem Jc.below{w w':World}{p g n f s:Nat}{slots:List Value}(h:Jc w p g n f s slots)(hb:Below w.heap.size w w'):Jc w' p g n f s slots:=
 ⟨h.1.below hb h.1.lt,h.2.1.below hb h.2.1.lt,h.2.2⟩
theorem nH(c:Nat)(hc:c<=65536)(w:World):
  (Instr.makeSlice 37 (.int .i64 0) (.int .i64 (c:Int))).run Tryz.prog w=.ok (.slice (some ⟨w.heap.size,0,none⟩) 0 c) (w.alloc (.cells (madeCells #[.slice none 0 0] c) 26)):=by
 obtain⟨i0,hi,hz0,hz1,hz2⟩:=ZF qb;have:=run_make (P:=Tryz.prog) w 37 26 i0 (.slice none 0 0) Tryz.underlying37 hi hz0 .i64 .i64 (0:Nat) c (by omega) (by omega) (by rw[hz2];omega) (by omega);rw[hz1,Qs,Qs,Nat.mul_one]at this;exact this
theorem Ma(w:World)(base c:Nat)(hb:base<=w.heap.size)(hc:c<=65536):Zk 26 base (w.alloc (.cells (madeCells #[.slice none 0 0] c) 26)) (.slice (some ⟨w.heap.size,0,none⟩) 0 c) []:=
 World.ownsRow_made w _ c hb (by unfold maxLen;omega) (by rw[size_madeCells,Nat.mul_one])
def OO(vs:List Value)(w:World)(e:Ending)(w':World):Prop:=∃v,e=.returned v/\Zk 26 w.heap.size w' v vs/\Below w.heap.size w w'
theorem Gy(p n f s g:Nat)(w:World)(slots:List Value)(h:Jc w p g n f s slots)(hf:f<n)(hs:s<=n)(hn:n<=65536):
  Calls Tryz.prog 198 #[.pointer (some ⟨p,0,none⟩)] w (OO (JD n f s slots) w):=by
 have hmk:=nH s (by omega);obtain⟨c0,c1,c2,f0,f1,f2⟩:=h.1.three;have hpl:=h.1.lt;have hS:=h.2.2.2.2;have hl:=h.2.2.1;have hSV:∀k,k<s->∃a n' c,vx slots (place n f k)=.slice a n' c:=fun k hk=>hS _ (by have:=qH hf (show k<=n by omega);omega)
 have HS:=QQ hSV;have H:=QQ h;clear h hS hl hSV;go_enter Tryz.func198,Tryz.ntmps198
 go_wp2
 go_loopw [16,3] (fun i v wr=>∃k:Nat,i=.int .i64 (k:Int)/\k<=s/\Zk 26 w.heap.size wr v ((JD n f s slots).take k)/\Below w.heap.size w wr) (fun i _ _=>s-(intOf i).toNat)
 case atStart=>exact⟨0,rfl,by omega,Ma w w.heap.size s (QU _) (by omega),QC _ _⟩
 case round=>
  obtain⟨k,rfl,hk,hown,hbel⟩:=hrel;have hlen:((JD n f s slots).take k).length+1<=4398046511104:=by simp[Xf];omega
  by_cases hlt:k<s
  ·obtain⟨ya,yn,yc,hy⟩:=HS.out k hlt
   have HY:=QQ hy;have HRA:=QQ (PO p n f s g k wr slots (H.out.below hbel) hf hs hn hlt);rw[hy]at HRA;clear hy;go_wp2_with fail
   refine HRA.out.mono ?_;rintro e w1 ⟨rfl,q,hq⟩;have hown1:Zk 26 w.heap.size w1 u3 ((JD n f s slots).take k):=by rw[hq];exact hown.drewN q
   have hb1:Below w.heap.size w w1:=by rw[hq];exact below_drewN hbel q
   have Oe:=QQ (YJ w1 [.slice ya yn yc] 26);have HSS:=QQ (show FD [.slice ya yn yc]from fun i hi=>by
    obtain rfl:i=0:=by simp at hi;omega
    exact⟨ya,yn,yc,rfl⟩)
   clear hq;go_wp2_with (at_builtin;refine QZx rfl _ _ rfl w.heap.size u3 _ [.slice ya yn yc] _ 1 1 rfl rfl (hown1.alloc _) Oe.out HSS.out rfl hlen (ZV hb1.size _) ?_;intro v2 w2 hown2 hgrow2)
   go_roundw
   case rel=>exact⟨k+1,by go_num,by omega,by rw[EA hlt,HY.out];exact hown2,(hb1.alloc hb1.size _).grown hgrow2 (by have:=hb1.size;simp;omega) hown.row⟩
   case measure=>simp[intOf];omega
  ·obtain rfl:k=s:=by omega
   go_wp2;go_ret;rw[Q5 (by simp[Xf])]at hown;exact⟨_,rfl,hown,hbel⟩
def zU(p g:Nat)(w w':World):Prop:=w'.heap.size=w.heap.size/\∀B,B≠p->B≠g->w'.heap[B]? =w.heap[B]?
theorem zU.refl(p g:Nat)(w:World):zU p g w w:=⟨rfl,fun _ _ _=>rfl⟩
theorem zU.set{p g:Nat}{w w':World}(h:zU p g w w'){a:Addr}(ha:a.block=p\/a.block=g)(u:Value):zU p g w (w'.setCell a u):=by
 refine⟨by rw[size_setCell];exact h.1,fun B h1 h2=>?_⟩;rw[QP _ _ _ _ (by rcases ha with e|e<;>rw[e]<;>assumption)];exact h.2 B h1 h2
theorem zU.drewN{p g:Nat}{w w':World}(h:zU p g w w')(n:Nat):zU p g w (w'.drewN n):=h
theorem zU.cell{p g:Nat}{w w':World}(h:zU p g w w'){q:Addr}{v:Value}(h1:q.block≠p)(h2:q.block≠g)(hc:w.cell? q=some v):w'.cell? q=some v:=by
 unfold World.cell? at *;rw[h.2 _ h1 h2];exact hc
theorem zU.blk{p g:Nat}{w w':World}(h:zU p g w w'){B:Nat}{cs:Array Value}{e:TypeId}(h1:B≠p)(h2:B≠g)(hb:QD w B cs e):QD w' B cs e:=by
 unfold QD at *;rw[h.2 _ h1 h2];exact hb
theorem Jc.QZH{w:World}{p g n f s:Nat}{slots:List Value}(h:Jc w p g n f s slots){x:Value}(hx:∃a n c,x=.slice a n c)(q j:Nat):
  Jc (((w.setCell ⟨g,j,none⟩ x).setCell ⟨p,2,none⟩ (.int .i64 ((s+1:Nat):Int))).drewN q) p g n f (s+1) (slots.set j x):=by
 obtain⟨h1,h2,h3,h4,h5⟩:=h;refine⟨?_,?_,by simp[h3],h4,fun i hi=>?_⟩
 ·have:=(h1.other (a:=⟨g,j,none⟩) h4 x).set 2 (.int .i64 ((s+1:Nat):Int))
  simp only[QZ,QX,QY]at this;exact this.drewN q
 ·exact(Dh h2 j x).other (a:=⟨p,2,none⟩) (fun e=>h4 e.symm) _
 ·simp only[Zm]at hi
  by_cases e:j=i
  ·subst e;rw[Z9 hi];exact hx
  ·rw[Qu e];exact h5 i hi
theorem Jc.QZG{w:World}{p g n f s:Nat}{slots:List Value}(h:Jc w p g n f s slots){x:Value}(hx:∃a n c,x=.slice a n c)(q j f':Nat):
  Jc (((w.setCell ⟨g,j,none⟩ x).setCell ⟨p,1,none⟩ (.int .i64 f')).drewN q) p g n f' s (slots.set j x):=by
 obtain⟨h1,h2,h3,h4,h5⟩:=h;refine⟨?_,?_,by simp[h3],h4,fun i hi=>?_⟩
 ·have:=(h1.other (a:=⟨g,j,none⟩) h4 x).set 1 (.int .i64 f')
  simp only[QZ,QX,QY]at this;exact this.drewN q
 ·exact(Dh h2 j x).other (a:=⟨p,1,none⟩) (fun e=>h4 e.symm) _
 ·simp only[Zm]at hi
  by_cases e:j=i
  ·subst e;rw[Z9 hi];exact hx
  ·rw[Qu e];exact h5 i hi
theorem GK{o:Oper}{a:Act}{K:Act->World->Prop}{Q:Exit->Act->World->Prop}{w:World}(s x:Operand)
  (ho:o.op=.call {callee:=.builtin .append,args:=#[s,x],argTypes:=#[37,37]})
  (base:Nat) (v:Value) (vs us:List Value) (ad:Addr) (m c:Nat) (hs:a.eval s=v) (hx:a.eval x=.slice (some ad) m c)
  (hown:Zk 26 base w v vs) (hy:Y6 w (some ad) us) (eT:FD us) (hm:us.length=m) (hl:vs.length+m<=4398046511104) (hbase:base<=w.heap.size)
  (h:∀v' w',Zk 26 base w' v' (vs++us)->w.grownBy w' v.ownBlock->(v'.ownBlock=v.ownBlock\/v'.ownBlock=some w.heap.size)->K (a.put o.dst v') w'):
  o.wp Tryz.prog a w K Q:=by
 obtain⟨i0,hi,hz0,hz1,hz2⟩:=ZF qb;obtain⟨v',w',hr,h2,h3,-,h5⟩:=run_append_own_at (P:=Tryz.prog) w base 37 o.type 26 i0 (.slice none 0 0) 1 24 Tryz.underlying37 hi hz0 hz1 hz2 rfl (by decide) v vs.length vs hown ad m c us (by simp[hm]) (by
  intro j u hj;have hlt:j<us.length:=by
   rcases Qi j us.length with h|h
   ·exact h
   ·simp[h]at hj
  obtain⟨b,o',ha,hc⟩:=hy.at hlt;simp only[Qv]at ha;subst ha;have hadd:(⟨b,o',none⟩:Addr).add j=⟨b,o'+j,none⟩:=by unfold Addr.add;split<;>simp_all
  rw[hadd,hc j hlt,UQ hlt];rw[Qr hlt]at hj;exact hj) eT.mem (by unfold maxLen;omega) (by omega) hbase
 have h2':Zk 26 base w' v' (vs++us):=by unfold Zk;simpa[hm]using h2
 have h:=h v' w' h2' h3 h5;unfold Oper.wp execOp;simp only[ho,resolve,invoke,builtin,Sem.run_bind,Sem.run_pure,XT,List.map_toArray,List.map_cons,List.map_nil,hs,hx,hr];exact h
theorem BF{ops:Array Oper}{o:Oper}{a:Act}{K:Act->World->Prop}{Q:Exit->Act->World->Prop}{w:World}{E:Prop}(hw:Region.wanted o (yielded ops a.tmps)=true)(s x:Operand)
  (ho:o.op=.call {callee:=.builtin .append,args:=#[s,x],argTypes:=#[37,37]})
  (base:Nat) (v:Value) (vs us:List Value) (ad:Addr) (m c:Nat) (hs:a.eval s=v) (hx:a.eval x=.slice (some ad) m c)
  (hown:Zk 26 base w v vs) (hy:Y6 w (some ad) us) (eT:FD us) (hm:us.length=m) (hl:vs.length+m<=4398046511104) (hbase:base<=w.heap.size)
  (h:∀v' w',Zk 26 base w' v' (vs++us)->w.grownBy w' v.ownBlock->(v'.ownBlock=v.ownBlock\/v'.ownBlock=some w.heap.size)->K (a.put o.dst v') w'):
  if Region.wanted o (yielded ops a.tmps)=true then Oper.wp Tryz.prog o a w K Q else E:=by
 rw[if_pos hw];exact GK s x ho base v vs us ad m c hs hx hown hy eT hm hl hbase h
theorem Zk.PN{e:TypeId}{base:Nat}{w:World}{v:Value}{vs:List Value}(h:Zk e base w v vs):Ag (fun k=>v.ownBlock=some k) w v vs:=by
 obtain⟨a,n,c,h1,h2,h3,h4,h5,h6⟩:=h.vs;exact Qvl
theorem Own.lq{e:TypeId}{base:Nat}{w:World}{v:Value}{xs:List Int}(h:Own e base w v xs):XH (fun k=>v.ownBlock=some k) w v xs:=by
 obtain⟨a,n,c,h1,h2,h3,h4,h5,h6⟩:=h.sl;exact Qvl
theorem Own.LF{e:TypeId}{base:Nat}{w w':World}{v:Value}{xs:List Int}(h:Own e base w v xs)(h':Own e base w' v xs):XH (fun k=>base<=k/\k<w.heap.size) w' v xs:=
 h'.lq.imp fun k hk=>ZW h k hk
def Vm(h:Hi)(xs:List Int):List (List Int):=if xs=[]then h.ls else if h.most<(h.ls.length:Int)+1 then(h.ls++[xs]).drop 1 else h.ls++[xs]
def VV(h:Hi)(xs:List Int):Hi:=⟨Vm h xs,h.most,(Vm h xs).length,[],h.pat,h.older⟩
def Fa(P:Nat->Prop)(h:Hi)(E:Int)(w:World)(e:Ending)(w':World):Prop:=
 ∃lv sv pv,e=.returned (.tuple #[.agg (Zc lv h.most h.QM sv pv h.older),.int .i64 E])/\UO P w' lv h.most h.QM sv pv h.older h/\Below w.heap.size w w'
def QQN(h:Hi)(xs:List Int)(h':Hi)(E:Int):Prop:=
 (qK h≠0/\h'=hi0/\E=qK h)\/(qK h=0/\200<xs.length/\h'=hi0/\E=2)\/(qK h=0/\xs.length<=200/\h'=VV h xs/\E=0)
def aU(wr:World)(p g n:Nat)(all:List Value)(k:Nat):Prop:=
 (k<=n/\∃slots,Jc wr p g n 0 k slots/\∀i,i<k->vx slots i=vx all i)\/
 (k=n+1/\∃slots,Jc wr p g n (place n 0 1) n slots/\vx slots 0=vx all n/\∀i,1<=i->i<n->vx slots i=vx all i)
theorem PM{vs us:List Value}(h:vs.length=us.length)(he:∀i,i<vs.length->vx vs i=vx us i):vs=us:=by
 apply List.ext_getElem h;intro i h1 h2;have:=he i h1
 rwa[UQ h1,UQ h2]at this
theorem aU.list{wr:World}{p g n:Nat}{all:List Value}{k:Nat}(h:aU wr p g n all k)(hk:all.length=k)(hn:1<=n):
  ∃f s slots,Jc wr p g n f s slots/\f<n/\s<=n/\JD n f s slots=(if n<k then all.drop 1 else all):=by
 rcases h with⟨h1,slots,h2,h3⟩|⟨rfl,slots,h2,h3,h4⟩
 ·refine⟨0,k,slots,h2,by omega,h1,?_⟩
  rw[if_neg (by omega)];apply PM (by rw[Xf,hk]);intro i hi;rw[Xf]at hi;rw[AZ hi,show place n 0 i=i from by unfold place;split<;>omega];exact h3 i hi
 ·refine⟨place n 0 1,n,slots,h2,by unfold place;split<;>omega,QU _,?_⟩
  rw[if_pos (by omega)];apply PM (by rw[Xf,Q7];omega);intro i hi;rw[Xf]at hi;rw[AZ hi,A7];by_cases h0:i=n-1
  ·have:place n (place n 0 1) i=0:=by unfold place;split<;>split<;>omega
   rw[this,h3];congr 1;omega
  ·have:place n (place n 0 1) i=1+i:=by unfold place;split<;>split<;>omega
   rw[this];exact h4 (1+i) (by omega) (by omega)
theorem Ch(lv:Value)(most QM:Int)(sv pv:Value)(older:Bool)(ls:List (List Int))(M W:Int)(Qm pat:List Int)(O:Bool)(a:Option Addr)(nn c:Nat)(w:World)(r:Un w lv most QM sv pv older ⟨ls,M,W,Qm,pat,O⟩)(E:Int)(hE:qK ⟨ls,M,W,Qm,pat,O⟩=E)(h0:E≠0)(P:Nat->Prop):
  Calls Tryz.prog 133 #[.agg (Zc lv most QM sv pv older),.slice a nn c] w (Fa P hi0 E w):=by
 have HE:=QQ hE;have h0':(E !=0)=true:=by simpa using h0
 have YD:=QQ r;clear hE h0;obtain⟨⟨vs,hvs,hls⟩,h1,h2,ZI,ZL,h3⟩:=r;simp only at hls h1 h2 h3 ZI ZL;obtain rfl:M=most:=h1.symm;obtain rfl:W=QM:=h2.symm;obtain rfl:O=older:=h3.symm;obtain⟨la,ln,lc,rfl,hl1,hl2,hl3,hl4,hl5⟩:=hvs;obtain⟨sa,sn,sc,rfl,hs1,hs2,hs3,hs4,hs5⟩:=ZI;obtain⟨pa,pn,pc,rfl,hp1,hp2,hp3,Wl,Jh⟩:=ZL;have hll:ls.length=ln:=by rw[<-hls.len];exact hl1
 have UL:=QQ (fun W' r=>Kh (.slice la ln lc) M W (.slice sa sn sc) (.slice pa pn pc) O ⟨ls,M,W,Qm,pat,O⟩ W' r);unfold Zc at *;have hB:=(QD.new w #[.slice la ln lc,.int .i64 M,.int .i64 W,.slice sa sn sc,.slice pa pn pc,.bool O] 65).alloc (.cells #[.slice none 0 0,.int .i64 0,.int .i64 0,.slice none 0 0,.slice none 0 0,.bool false] 65);have hR:=QD.new (w.alloc (.cells #[.slice la ln lc,.int .i64 M,.int .i64 W,.slice sa sn sc,.slice pa pn pc,.bool O] 65)) #[.slice none 0 0,.int .i64 0,.int .i64 0,.slice none 0 0,.slice none 0 0,.bool false] 65;rw[QJ]at hR;have hacc:=QS w (.cells #[.slice la ln lc,.int .i64 M,.int .i64 W,.slice sa sn sc,.slice pa pn pc,.bool O] 65) (.cells #[.slice none 0 0,.int .i64 0,.int .i64 0,.slice none 0 0,.slice none 0 0,.bool false] 65);have hsz:w.heap.size+2<=((w.alloc (.cells #[.slice la ln lc,.int .i64 M,.int .i64 W,.slice sa sn sc,.slice pa pn pc,.bool O] 65)).alloc (.cells #[.slice none 0 0,.int .i64 0,.int .i64 0,.slice none 0 0,.slice none 0 0,.bool false] 65)).heap.size:=by simp
 have HR1:=QQ (YD.out.below hacc);clear hs1 hp1 hl1 hl5 hs5 Jh hll hls YD;go_enter Tryz.func133,Tryz.ntmps133
 go_upto_region 1 with fail
 change Code.wp _ _ _ _ ((w.alloc (.cells #[.slice la ln lc,.int .i64 M,.int .i64 W,.slice sa sn sc,.slice pa pn pc,.bool O] 65)).alloc (.cells #[.slice none 0 0,.int .i64 0,.int .i64 0,.slice none 0 0,.slice none 0 0,.bool false] 65));generalize((w.alloc (.cells #[.slice la ln lc,.int .i64 M,.int .i64 W,.slice sa sn sc,.slice pa pn pc,.bool O] 65)).alloc (.cells #[.slice none 0 0,.int .i64 0,.int .i64 0,.slice none 0 0,.slice none 0 0,.bool false] 65))=w1 at *;obtain⟨c0,c1,c2,c3,c4,c5⟩:=hB.six;go_wp2_with ((go_at_call 194);refine(UL.out _ HR1.out).mono ?_;rintro e wc ⟨rfl,hb2⟩;rw[HE.out];have hB2:=hB.below hb2 hB.lt;obtain⟨d0,d1,d2,d3,d4,d5⟩:=hB2.six;have hR2:=hR.below hb2 hR.lt;obtain⟨p0,p1,p2,p3,p4,p5⟩:=hR2.six;obtain⟨t0,t1,t2,t3,t4,t5⟩:=hR2.Z7;have Qc:=QW hacc (by omega) hb2;have hlt2:=hB2.lt;have hz2:=hb2.size)
 obtain⟨y0,y1,y2,y3,y4,y5⟩:=(hR2.six' (.slice none 0 0) (.int .i64 0) (.int .i64 0) (.slice none 0 0) (.slice none 0 0) (.bool false)).six;refine QV (v:=.tuple #[.agg (Zc (.slice none 0 0) 0 0 (.slice none 0 0) (.slice none 0 0) false),.int .i64 (E)]) (by simp[results,Tryz.results133,go_sem,y0,y1,y2,y3,y4,y5,Zc]) rfl ?_;exact⟨_,_,_,rfl,Wn _ _,YB Qc (QK _)⟩
theorem kW(lv:Value)(most QM:Int)(sv pv:Value)(older:Bool)(ls:List (List Int))(M W:Int)(Qm pat:List Int)(O:Bool)(a:Option Addr)(nn c:Nat)(w:World)(r:Un w lv most QM sv pv older ⟨ls,M,W,Qm,pat,O⟩)(hE:qK ⟨ls,M,W,Qm,pat,O⟩=0)(h0:200<nn)(P:Nat->Prop):
  Calls Tryz.prog 133 #[.agg (Zc lv most QM sv pv older),.slice a nn c] w (Fa P hi0 2 w):=by
 have HE:=QQ hE;have YD:=QQ r;clear hE;obtain⟨⟨vs,hvs,hls⟩,h1,h2,ZI,ZL,h3⟩:=r;simp only at hls h1 h2 h3 ZI ZL;obtain rfl:M=most:=h1.symm;obtain rfl:W=QM:=h2.symm;obtain rfl:O=older:=h3.symm;obtain⟨la,ln,lc,rfl,hl1,hl2,hl3,hl4,hl5⟩:=hvs;obtain⟨sa,sn,sc,rfl,hs1,hs2,hs3,hs4,hs5⟩:=ZI;obtain⟨pa,pn,pc,rfl,hp1,hp2,hp3,Wl,Jh⟩:=ZL;have hll:ls.length=ln:=by rw[<-hls.len];exact hl1
 have UL:=QQ (fun W' r=>Kh (.slice la ln lc) M W (.slice sa sn sc) (.slice pa pn pc) O ⟨ls,M,W,Qm,pat,O⟩ W' r);unfold Zc at *;have hB:=(QD.new w #[.slice la ln lc,.int .i64 M,.int .i64 W,.slice sa sn sc,.slice pa pn pc,.bool O] 65).alloc (.cells #[.slice none 0 0,.int .i64 0,.int .i64 0,.slice none 0 0,.slice none 0 0,.bool false] 65);have hR:=QD.new (w.alloc (.cells #[.slice la ln lc,.int .i64 M,.int .i64 W,.slice sa sn sc,.slice pa pn pc,.bool O] 65)) #[.slice none 0 0,.int .i64 0,.int .i64 0,.slice none 0 0,.slice none 0 0,.bool false] 65;rw[QJ]at hR;have hacc:=QS w (.cells #[.slice la ln lc,.int .i64 M,.int .i64 W,.slice sa sn sc,.slice pa pn pc,.bool O] 65) (.cells #[.slice none 0 0,.int .i64 0,.int .i64 0,.slice none 0 0,.slice none 0 0,.bool false] 65);have hsz:w.heap.size+2<=((w.alloc (.cells #[.slice la ln lc,.int .i64 M,.int .i64 W,.slice sa sn sc,.slice pa pn pc,.bool O] 65)).alloc (.cells #[.slice none 0 0,.int .i64 0,.int .i64 0,.slice none 0 0,.slice none 0 0,.bool false] 65)).heap.size:=by simp
 have HR1:=QQ (YD.out.below hacc);clear hs1 hp1 hl1 hl5 hs5 Jh hll hls YD;go_enter Tryz.func133,Tryz.ntmps133
 go_upto_region 1 with fail
 change Code.wp _ _ _ _ ((w.alloc (.cells #[.slice la ln lc,.int .i64 M,.int .i64 W,.slice sa sn sc,.slice pa pn pc,.bool O] 65)).alloc (.cells #[.slice none 0 0,.int .i64 0,.int .i64 0,.slice none 0 0,.slice none 0 0,.bool false] 65));generalize((w.alloc (.cells #[.slice la ln lc,.int .i64 M,.int .i64 W,.slice sa sn sc,.slice pa pn pc,.bool O] 65)).alloc (.cells #[.slice none 0 0,.int .i64 0,.int .i64 0,.slice none 0 0,.slice none 0 0,.bool false] 65))=w1 at *;obtain⟨c0,c1,c2,c3,c4,c5⟩:=hB.six;go_wp2_with ((go_at_call 194);refine(UL.out _ HR1.out).mono ?_;rintro e wc ⟨rfl,hb2⟩;rw[HE.out];have hB2:=hB.below hb2 hB.lt;obtain⟨d0,d1,d2,d3,d4,d5⟩:=hB2.six;have hR2:=hR.below hb2 hR.lt;obtain⟨p0,p1,p2,p3,p4,p5⟩:=hR2.six;obtain⟨t0,t1,t2,t3,t4,t5⟩:=hR2.Z7;have Qc:=QW hacc (by omega) hb2;have hlt2:=hB2.lt;have hz2:=hb2.size)
 obtain⟨y0,y1,y2,y3,y4,y5⟩:=(hR2.six' (.slice none 0 0) (.int .i64 0) (.int .i64 0) (.slice none 0 0) (.slice none 0 0) (.bool false)).six;refine QV (v:=.tuple #[.agg (Zc (.slice none 0 0) 0 0 (.slice none 0 0) (.slice none 0 0) false),.int .i64 (2)]) (by simp[results,Tryz.results133,go_sem,y0,y1,y2,y3,y4,y5,Zc]) rfl ?_;exact⟨_,_,_,rfl,Wn _ _,YB Qc (QK _)⟩
theorem kz(lv:Value)(most QM:Int)(sv pv:Value)(older:Bool)(ls:List (List Int))(M W:Int)(Qm pat:List Int)(O:Bool)(a:Option Addr)(nn c:Nat)(w:World)(r:Un w lv most QM sv pv older ⟨ls,M,W,Qm,pat,O⟩)(xs:List Int)(hE:qK ⟨ls,M,W,Qm,pat,O⟩=0)(hx:Ints w a xs)(X0:xs.length=nn)(hx0:a=none->nn=0)(hnn:nn<=200)(h0:nn=0):
  Calls Tryz.prog 133 #[.agg (Zc lv most QM sv pv older),.slice a nn c] w (Fa (fun k=>w.heap.size<=k) (VV ⟨ls,M,W,Qm,pat,O⟩ xs) 0 w):=by
 have hok:=U8 hE;have HE:=QQ hE;have YD:=QQ r;have hm1:1<=M:=hok.Ec;have hm2:M<=50:=hok.JH;have hlm:(ls.length:Int)<=M:=hok.len;have xq:=QQ X0;have HX0:=QQ hx0;have LY:=QQ hok.lines;have ak:=QQ hok.Qm;have au:=QQ hok.pat;clear hE hok X0 hx0;obtain⟨⟨vs,hvs,hls⟩,h1,h2,ZI,ZL,h3⟩:=r;simp only at hls h1 h2 h3 ZI ZL;obtain rfl:M=most:=h1.symm;obtain rfl:W=QM:=h2.symm;obtain rfl:O=older:=h3.symm;obtain⟨la,ln,lc,rfl,hl1,hl2,hl3,hl4,hl5⟩:=hvs;obtain⟨sa,sn,sc,rfl,hs1,hs2,hs3,hs4,hs5⟩:=ZI;obtain⟨pa,pn,pc,rfl,hp1,hp2,hp3,Wl,Jh⟩:=ZL;have hll:ls.length=ln:=by rw[<-hls.len];exact hl1
 have UL:=QQ (fun W' r=>Kh (.slice la ln lc) M W (.slice sa sn sc) (.slice pa pn pc) O ⟨ls,M,W,Qm,pat,O⟩ W' r);have xz:=QQ (fun W' r=>Jq (.slice la ln lc) M W (.slice sa sn sc) (.slice pa pn pc) O ⟨ls,M,W,Qm,pat,O⟩ W' r (by show ls.length<=50;omega) LY.out ak.out au.out);rw[hll]at hlm;obtain rfl:nn=0:=h0;have yV:=QQ hll;unfold Zc at *;have hB:=(QD.new w #[.slice la ln lc,.int .i64 M,.int .i64 W,.slice sa sn sc,.slice pa pn pc,.bool O] 65).alloc (.cells #[.slice none 0 0,.int .i64 0,.int .i64 0,.slice none 0 0,.slice none 0 0,.bool false] 65);have hR:=QD.new (w.alloc (.cells #[.slice la ln lc,.int .i64 M,.int .i64 W,.slice sa sn sc,.slice pa pn pc,.bool O] 65)) #[.slice none 0 0,.int .i64 0,.int .i64 0,.slice none 0 0,.slice none 0 0,.bool false] 65;rw[QJ]at hR;have hacc:=QS w (.cells #[.slice la ln lc,.int .i64 M,.int .i64 W,.slice sa sn sc,.slice pa pn pc,.bool O] 65) (.cells #[.slice none 0 0,.int .i64 0,.int .i64 0,.slice none 0 0,.slice none 0 0,.bool false] 65);have hsz:w.heap.size+2<=((w.alloc (.cells #[.slice la ln lc,.int .i64 M,.int .i64 W,.slice sa sn sc,.slice pa pn pc,.bool O] 65)).alloc (.cells #[.slice none 0 0,.int .i64 0,.int .i64 0,.slice none 0 0,.slice none 0 0,.bool false] 65)).heap.size:=by simp
 have HR1:=QQ (YD.out.below hacc);clear hs1 hp1 hl1 hl5 hs5 Jh hll hls YD;go_enter Tryz.func133,Tryz.ntmps133
 go_upto_region 1 with fail
 change Code.wp _ _ _ _ ((w.alloc (.cells #[.slice la ln lc,.int .i64 M,.int .i64 W,.slice sa sn sc,.slice pa pn pc,.bool O] 65)).alloc (.cells #[.slice none 0 0,.int .i64 0,.int .i64 0,.slice none 0 0,.slice none 0 0,.bool false] 65));generalize((w.alloc (.cells #[.slice la ln lc,.int .i64 M,.int .i64 W,.slice sa sn sc,.slice pa pn pc,.bool O] 65)).alloc (.cells #[.slice none 0 0,.int .i64 0,.int .i64 0,.slice none 0 0,.slice none 0 0,.bool false] 65))=w1 at *;obtain⟨c0,c1,c2,c3,c4,c5⟩:=hB.six;go_wp2_with ((go_at_call 194);refine(UL.out _ HR1.out).mono ?_;rintro e wc ⟨rfl,hb2⟩;rw[HE.out];have hB2:=hB.below hb2 hB.lt;obtain⟨d0,d1,d2,d3,d4,d5⟩:=hB2.six;have hR2:=hR.below hb2 hR.lt;obtain⟨p0,p1,p2,p3,p4,p5⟩:=hR2.six;obtain⟨t0,t1,t2,t3,t4,t5⟩:=hR2.Z7;have Qc:=QW hacc (by omega) hb2;have hlt2:=hB2.lt;have hz2:=hb2.size;have HR2:=QQ (HR1.out.below hb2))
 refine(xz.out _ HR2.out).mono ?_;rintro e w2 ⟨dw,cO,dz,vs2,rfl,ho2,Ve,os2,Bp,hb3⟩;obtain⟨ra,rn,rc,rfl⟩:=ho2.form;obtain⟨ta,tn,tc,rfl⟩:=os2.form;obtain⟨ua,un,uc,rfl⟩:=Bp.form;have YG:=QW Qc (by omega) hb3;have hB3:=hB2.below hb3 hB2.lt;have UE:=hR2.below hb3 hR2.lt;have hz3:=hb3.size;have Sd:=ho2.mono (base':=w.heap.size+2) (by omega);have El:=Ve.imp (base':=w.heap.size+2) fun _ _ k=>k.mono (by omega)
 have R6:=Bp.mono (base':=w.heap.size+2) (by omega);have qz:=QQ Sd;have uy:=QQ El;have aA:=QQ R6;simp only[Zc];clear ho2 Ve os2 Bp Sd El R6 c0 c1 c2 c3 c4 c5 d0 d1 d2 d3 d4 d5 p0 p1 p2 p3 p4 p5 t0 t1 t2 t3 t4 t5;have fC:=QD.new w2 #[.slice ra rn rc,.int .i64 M,.int .i64 W,.slice ta tn tc,.slice ua un uc,.bool O] 65;have hk3:=QC w2 (.cells #[.slice ra rn rc,.int .i64 M,.int .i64 W,.slice ta tn tc,.slice ua un uc,.bool O] 65);have Av:(w2.alloc (.cells #[.slice ra rn rc,.int .i64 M,.int .i64 W,.slice ta tn tc,.slice ua un uc,.bool O] 65)).heap.size=w2.heap.size+1:=by simp
 have hB4:=hB3.alloc (.cells #[.slice ra rn rc,.int .i64 M,.int .i64 W,.slice ta tn tc,.slice ua un uc,.bool O] 65);have hR4:=UE.alloc (.cells #[.slice ra rn rc,.int .i64 M,.int .i64 W,.slice ta tn tc,.slice ua un uc,.bool O] 65);go_upto_region 7 with fail
 change Code.wp _ _ _ _ (w2.alloc (.cells #[.slice ra rn rc,.int .i64 M,.int .i64 W,.slice ta tn tc,.slice ua un uc,.bool O] 65));generalize(w2.alloc (.cells #[.slice ra rn rc,.int .i64 M,.int .i64 W,.slice ta tn tc,.slice ua un uc,.bool O] 65))=w3 at *;have Ki:=QW YG (by omega) hk3;obtain⟨n0,n1,n2,n3,n4,n5⟩:=fC.six;obtain⟨m0,m1,m2,m3,m4,m5⟩:=fC.Z7;have QKJ:=(qz.out.kept hk3).PN;have hrl:rn=ls.length:=by
  have h1:=qz.out.vs.get.1;have h2:vs2.length=ls.length:=uy.out.1;omega
 have HRL:=QQ hrl;clear QKJ hrl;obtain⟨p0,p1,p2,p3,p4,p5⟩:=hR4.six;obtain⟨t0,t1,t2,t3,t4,t5⟩:=hR4.Z7;go_wp2;have Jv:=(hR4.other (a:=⟨w2.heap.size,2,none⟩) (by show w.heap.size+1≠w2.heap.size;omega) (.int .i64 (rn:Int))).other (a:=⟨w2.heap.size,3,none⟩) (by show w.heap.size+1≠w2.heap.size;omega) (.slice none 0 0);obtain⟨y0,y1,y2,y3,y4,y5⟩:=(Jv.six' (.slice ra rn rc) (.int .i64 M) (.int .i64 (rn:Int)) (.slice none 0 0) (.slice ua un uc) (.bool O)).six;refine QV (v:=.tuple #[.agg (Zc (.slice ra rn rc) M (rn:Int) (.slice none 0 0) (.slice ua un uc) O),.int .i64 0]) (by simp[results,Tryz.results133,go_sem,y0,y1,y2,y3,y4,y5,Zc]) rfl ?_;have hxs:xs=[]:=QH xq.out;have hAH:VV ⟨ls,M,W,Qm,pat,O⟩ xs=⟨ls,M,(rn:Int),[],pat,O⟩:=by
  unfold VV Vm;rw[if_pos hxs,HRL.out]
 rw[hAH];have Xh:=(Ki.setCell (p:=⟨w2.heap.size,2,none⟩) (by show w.heap.size<=w2.heap.size;omega) (.int .i64 (rn:Int))).setCell (p:=⟨w2.heap.size,3,none⟩) (by show w.heap.size<=w2.heap.size;omega) (.slice none 0 0);have hcl:=fun(q:Addr) (v:Value) (hq:w.heap.size+2<=q.block/\q.block<w2.heap.size) (hc:w3.cell? q=some v)=>
  Mj (B:=w.heap.size+1) (u0:=.slice ra rn rc) (u1:=.int .i64 M) (u2:=.int .i64 (rn:Int)) (u3:=.slice none 0 0) (u4:=.slice ua un uc) (u5:=.bool O) (Qa (Qa hc (a:=⟨w2.heap.size,2,none⟩) (u:=.int .i64 (rn:Int)) (by show q.block≠w2.heap.size;omega)) (a:=⟨w2.heap.size,3,none⟩) (u:=.slice none 0 0) (by show q.block≠w2.heap.size;omega)) (by omega)
 exact⟨_,_,_,rfl,⟨⟨vs2,((qz.out.kept hk3).PN.imp (Q:=fun k=>w.heap.size+2<=k/\k<w2.heap.size) (fun k hk=>ZW qz.out k hk)).keep hcl |>.imp (fun k hk=>by omega),⟨uy.out.1,fun i hi=>(((uy.out.2 i hi).LF ((uy.out.2 i hi).kept hk3)).keep hcl).imp (fun k hk=>by omega)⟩⟩,rfl,rfl,XH.nil _ _,((aA.out.LF (aA.out.kept hk3)).keep hcl).imp (fun k hk=>by omega),rfl⟩,YB Xh (QK _)⟩
def NZ(c:Int):Bool:=decide ((0<=c/\c<55296)\/(57343<c/\c<=1114111))
theorem jJ(c:Int)(w:World):Calls Tryz.prog 94 #[.int .i64 c] w fun e w'=>e=.returned (.bool (NZ c))/\w=w':=by
 go_enter Tryz.func94,Tryz.ntmps94
 go_wp2
 all_goals
  go_ret;refine⟨XZ ?_,rfl⟩;rw[Bool.eq_iff_iff];simp[NZ]
  try omega
def NL(n:Int):Int:=if n=2 then 128 else if n=3 then 2048 else if n=4 then 65536 else 0
theorem vR(n:Int)(w:World):Calls Tryz.prog 220 #[.int .i64 n] w fun e w'=>e=.returned (.int .i64 (NL n))/\w=w':=by
 go_enter Tryz.func220,Tryz.ntmps220
 go_wp2
 all_goals
  go_ret;refine⟨ZQ ?_,rfl⟩;simp_all[NL]
def eY(b:Int):Int:=if b<128 then 1 else if b<192 then 0 else if b<224 then 2 else if b<240 then 3 else if b<248 then 4 else 0
def om(b:Int):Int:=if b<128 then b else if b<192 then 0 else if b<224 then b % 32 else if b<240 then b % 16 else if b<248 then b % 8 else 0
theorem jK(b:Int)(h0:0<=b)(h1:b<=255)(w:World):Calls Tryz.prog 219 #[.int .u8 b] w fun e w'=>e=.returned (.tuple #[.int .i64 (eY b),.int .i64 (om b)])/\w=w':=by
 have HN:=QQ (show eY b=_ from rfl);have HC:=QQ (show om b=_ from rfl);go_enter Tryz.func219,Tryz.ntmps219
 go_wp2
 all_goals
  go_ret2
  refine⟨XQ Ending.returned (XQ Value.tuple (show#[Value.int .i64 _,Value.int .i64 _]=_ from ?_)),rfl⟩;unfold eY om
  repeat' split
  all_goals first|rfl|(exfalso;omega)
def onV(b:Int):Int:=if b<128 then 0 else if b<192 then 1 else if b<224 then 2 else if b<240 then 3 else if b<248 then 4 else if b<252 then 5 else if b<254 then 6 else if b<255 then 7 else 8
theorem QJn{x y:Int}(h0:0<=x)(h1:x<1099511627776)(h2:0<=y)(h3:y<64):bits .or .i64 (x*64) y=x*64+y:=by
 obtain⟨a,rfl⟩:=Qg h0;obtain⟨b,rfl⟩:=Qg h2;have e:((a:Int)*64)=((a*64:Nat):Int):=by omega
 rw[e];show IntKind.i64.wrap ((BitVec.ofInt 64 ((a*64:Nat):Int) ||| BitVec.ofInt 64 (b:Int)).toNat:Int)=_;rw[BitVec.toNat_or,ofInt_u64 (a*64) (by omega),ofInt_u64 b (by omega)];have:=Nat.two_pow_add_eq_or_of_lt (i:=6) (b:=b) (by omega) a;rw[show a*64=2 ^ 6*a by omega,<-this,Lib.wrap_i64_small _ (by omega)];omega
structure G where
 c:Int
 n:Int
 e:Int
def uZ(x:Int):Bool:=decide (128<=x/\x<192)
def TD(k c:Int):G:=if c<NL k\/NZ c=false then⟨0,0,4⟩else⟨c,k,0⟩
def gV(len:Nat)(b0 b1 b2 b3:Int):G:=
 if len=0 then⟨0,0,3⟩
 else if b0<128 then⟨b0,1,0⟩
 else if b0<192\/248<=b0 then⟨0,0,4⟩
 else if len=1 then⟨0,0,3⟩else if uZ b1=false then⟨0,0,4⟩
 else if b0<224 then TD 2 (b0 % 32*64+b1 % 64)
 else if len=2 then⟨0,0,3⟩else if uZ b2=false then⟨0,0,4⟩
 else if b0<240 then TD 3 ((b0 % 16*64+b1 % 64)*64+b2 % 64)
 else if len=3 then⟨0,0,3⟩else if uZ b3=false then⟨0,0,4⟩
 else TD 4 (((b0 % 8*64+b1 % 64)*64+b2 % 64)*64+b3 % 64)
def gS(s:ByteArray):G:=gV s.size (bt s 0) (bt s 1) (bt s 2) (bt s 3)
def QYd(g:G)(w:World)(e:Ending)(w':World):Prop:=e=.returned (.tuple #[.int .i64 g.c,.int .i64 g.n,.int .i64 g.e])/\Below w.heap.size w w'
def Head(b0:Int)(N:Nat)(c0:Int):Prop:=(192<=b0/\b0<224/\N=2/\c0=b0 % 32)\/(224<=b0/\b0<240/\N=3/\c0=b0 % 16)\/(240<=b0/\b0<248/\N=4/\c0=b0 % 8)
def xU(c0:Int)(s:ByteArray):Nat->Int
 | 0=>c0
 | k+1=>xU c0 s k*64+bt s (k+1) % 64
theorem iX{c0:Int}{s:ByteArray}(h0:0<=c0)(h1:c0<32){k:Nat}(hk:k<=3):0<=xU c0 s k/\xU c0 s k<8388608:=by
 have r1:=KQ s 1;have r2:=KQ s 2;have r3:=KQ s 3;obtain rfl|rfl|rfl|rfl:k=0\/k=1\/k=2\/k=3:=by omega
 all_goals simp only[xU];omega
theorem Head.bd{b0:Int}{N:Nat}{c0:Int}(h:Head b0 N c0):2<=N/\N<=4/\0<=c0/\c0<32:=by
 unfold Head at h;omega
theorem TC{s:ByteArray}{N i:Nat}{c0:Int}(h:Head (bt s 0) N c0)(h1:1<=i)(h2:i<N)(hs:s.size=i)(hc:∀j,1<=j->j<i->uZ (bt s j)=true):gS s=⟨0,0,3⟩:=by
 unfold gS gV;have hb:=h;unfold Head at hb;rw[if_neg (by omega),if_neg (by omega),if_neg (by omega)];obtain rfl|rfl|rfl:i=1\/i=2\/i=3:=by have:=h.bd;omega
 ·rw[if_pos hs]
 ·rw[if_neg (by omega),if_neg (by rw[hc 1 (by omega) (by omega)];simp),if_neg (by omega),if_pos hs]
 ·rw[if_neg (by omega),if_neg (by rw[hc 1 (by omega) (by omega)];simp),if_neg (by omega),if_neg (by omega),if_neg (by rw[hc 2 (by omega) (by omega)];simp),if_neg (by omega),if_pos hs]
theorem gQ{s:ByteArray}{N i:Nat}{c0:Int}(h:Head (bt s 0) N c0)(h1:1<=i)(h2:i<N)(hs:i<s.size)(hc:∀j,1<=j->j<i->uZ (bt s j)=true)(hf:uZ (bt s i)=false):gS s=⟨0,0,4⟩:=by
 unfold gS gV;have hb:=h;unfold Head at hb;rw[if_neg (by omega),if_neg (by omega),if_neg (by omega)];obtain rfl|rfl|rfl:i=1\/i=2\/i=3:=by have:=h.bd;omega
 ·rw[if_neg (by omega),if_pos hf]
 ·rw[if_neg (by omega),if_neg (by rw[hc 1 (by omega) (by omega)];simp),if_neg (by omega),if_neg (by omega),if_pos hf]
 ·rw[if_neg (by omega),if_neg (by rw[hc 1 (by omega) (by omega)];simp),if_neg (by omega),if_neg (by omega),if_neg (by rw[hc 2 (by omega) (by omega)];simp),if_neg (by omega),if_neg (by omega),if_pos hf]
theorem si{s:ByteArray}{N:Nat}{c0:Int}(h:Head (bt s 0) N c0)(hs:N<=s.size)(hc:∀j,1<=j->j<N->uZ (bt s j)=true):gS s=TD N (xU c0 s (N-1)):=by
 unfold gS gV;have hb:=h;unfold Head at hb;rw[if_neg (by omega),if_neg (by omega),if_neg (by omega),if_neg (by omega),if_neg (by rw[hc 1 (by omega) (by omega)];simp)];rcases hb with⟨a,b,rfl,rfl⟩|⟨a,b,rfl,rfl⟩|⟨a,b,rfl,rfl⟩
 ·rw[if_pos b];rfl
 ·rw[if_neg (by omega),if_neg (by omega),if_neg (by rw[hc 2 (by omega) (by omega)];simp),if_pos b];rfl
 ·rw[if_neg (by omega),if_neg (by omega),if_neg (by rw[hc 2 (by omega) (by omega)];simp),if_neg (by omega),if_neg (by omega),if_neg (by rw[hc 3 (by omega) (by omega)];simp)];rfl
theorem sS{s:ByteArray}(hs:0<s.size)(h:bt s 0<128):gS s=⟨bt s 0,1,0⟩:=by
 unfold gS gV;rw[if_neg (by omega),if_pos h]
theorem sw{s:ByteArray}(hs:0<s.size)(h:(128<=bt s 0/\bt s 0<192)\/248<=bt s 0):gS s=⟨0,0,4⟩:=by
 unfold gS gV;rw[if_neg (by omega),if_neg (by omega),if_pos (by omega)]
theorem sP{s:ByteArray}(hs:s.size=0):gS s=⟨0,0,3⟩:=by
 unfold gS gV;rw[if_pos hs]
theorem isE(s:ByteArray):s.toList.isEmpty=decide (s.size=0):=by
 rw[ByteArray.toList_eq];have h:s.data.toList.length=s.size:=by rw[Array.length_toList];rfl
 rw[<-h];cases s.data.toList<;>simp
theorem Tg{s:ByteArray}{j:Nat}(h:j<s.size):((s[j]'h).toNat:Int)=bt s j:=by
 unfold bt;have h2:j<s.data.toList.length:=by simpa using h
 simp[List.getD,h];rfl
end Go.Proofs.YtmdcencmiopmmaaGreat
