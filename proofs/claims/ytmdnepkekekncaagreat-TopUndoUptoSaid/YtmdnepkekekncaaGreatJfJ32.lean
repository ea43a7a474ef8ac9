/- joined, no condition of its own. -/
import Derived.Test.YtmdnepkekekncaaGreatJfJ28
set_option linter.unusedVariables false
set_option linter.unusedSimpArgs false
set_option maxRecDepth 100000
set_option maxHeartbeats 12000000
namespace Go.Proofs.YtmdnepkekekncaaGreat
open Go.RowKit
structure V2 where
 a:Value
 b:Value
def V2.cells(s:V2):List Value:=[s.a,s.b]
def xG(es:List V2)(i:Nat):V2:=es.getD i ⟨undef,undef⟩
theorem jO{es:List V2}{i:Nat}(h:i<es.length):xG es i=es[i]:=by simp[xG,h]
theorem AY{es us:List V2}{i:Nat}(h:i<es.length):xG (es++us) i=xG es i:=by unfold xG;simp[XM h]
theorem jN{es us:List V2}{i:Nat}:xG (es++us) (es.length+i)=xG us i:=by unfold xG;simp[XV]
theorem IC{es:List V2}{k i:Nat}:xG (es.drop k) i=xG es (k+i):=by unfold xG;simp
theorem AX{es:List V2}{k i:Nat}(h:i<k):xG (es.take k) i=xG es i:=by unfold xG;simp[List.getElem?_take,h]
def V2.ok(s:V2):Prop:=s.a.oneCell'=true/\s.b.oneCell'=true
def Xd(T:TypeId)(base:Nat)(w:World)(v:Value)(es:List V2):Prop:=w.ownsRow base T 2 v es.length (es.flatMap V2.cells)
def X0(w:World)(a:Option Addr)(es:List V2):Prop:=
 es=[]\/∃b o,a=some ⟨b,o,none⟩/\∀i,i<es.length->w.cell? ⟨b,o+i*2,none⟩=some (xG es i).a/\w.cell? ⟨b,o+(i*2+1),none⟩=some (xG es i).b
theorem X0.nil(w:World)(a:Option Addr):X0 w a []:=.inl rfl
theorem X0.at{w:World}{a:Option Addr}{es:List V2}(h:X0 w a es){k:Nat}(hk:k<es.length):
  ∃b o,a=some ⟨b,o,none⟩/\∀i,i<es.length->w.cell? ⟨b,o+i*2,none⟩=some (xG es i).a/\w.cell? ⟨b,o+(i*2+1),none⟩=some (xG es i).b:=by
 exact QLY
theorem X0.keep{w w':World}{a:Option Addr}{es:List V2}(h:X0 w a es)(hc:∀p v,w.cell? p=some v->w'.cell? p=some v):X0 w' a es:=by
 rcases h with h|⟨b,o,ha,h⟩
 ·exact .inl h
 ·exact .inr ⟨b,o,ha,fun i hi=>⟨hc _ _ (h i hi).1,hc _ _ (h i hi).2⟩⟩
theorem X0.drop{w:World}{b o:Nat}{es:List V2}(h:X0 w (some ⟨b,o,none⟩) es)(k:Nat):X0 w (some ⟨b,o+k*2,none⟩) (es.drop k):=by
 rcases h with h|⟨b',o',ha,h⟩
 ·subst h;exact .inl QJ
 ·simp only[ZL,YR]at ha
  obtain⟨rfl,rfl,-⟩:=ha;refine .inr ⟨b,o+k*2,rfl,fun i hi=>?_⟩;have hl:k+i<es.length:=QS;have:=h (k+i) hl;rw[IC];rw[show o+k*2+i*2=o+(k+i)*2 from QQ,show o+k*2+(i*2+1)=o+((k+i)*2+1)from QQ];exact this
theorem X0.take{w:World}{a:Option Addr}{es:List V2}(h:X0 w a es)(k:Nat):X0 w a (es.take k):=by
 rcases h with h|⟨b,o,ha,h⟩
 ·subst h;exact .inl QJ
 ·refine .inr ⟨b,o,ha,fun i hi=>?_⟩
  have hl:i<k/\i<es.length:=QS;rw[AX hl.1];exact h i hl.2
def kP(P:Nat->Prop)(w:World)(v:Value)(es:List V2):Prop:=∃a n c,v=.slice a n c/\es.length=n/\n<=c/\c<=9223372036854775807/\X0 w a es/\(a=none->n=0)/\∀ad,a=some ad->0<n->P ad.block
theorem kP.keep{P:Nat->Prop}{w w':World}{v:Value}{es:List V2}(h:kP P w v es)(hc:∀p v,P p.block->w.cell? p=some v->w'.cell? p=some v):kP P w' v es:=by
 obtain⟨a,n,c,h1,h2,h3,h4,h5,h6,h7⟩:=h;refine⟨a,n,c,h1,h2,h3,h4,?_,h6,h7⟩;rcases h5 with h5|⟨b,o,rfl,h5⟩
 ·exact .inl h5
 ·exact .inr ⟨b,o,rfl,fun i hi=>⟨hc _ _ (show P b from h7 ⟨b,o,none⟩ rfl QQ) (h5 i hi).1,hc _ _ (show P b from h7 ⟨b,o,none⟩ rfl QQ) (h5 i hi).2⟩⟩
theorem kP.imp{P Q:Nat->Prop}{w:World}{v:Value}{es:List V2}(h:kP P w v es)(hi:∀k,P k->Q k):kP Q w v es:=by
 exact QHl
theorem kP.nil(P:Nat->Prop)(w:World):kP P w (.slice none 0 0) []:=⟨none,0,0,rfl,rfl,ZB _,QQ,X0.nil _ _,fun _=>rfl,fun ad e=>QDk⟩
theorem kP.get{P:Nat->Prop}{w:World}{a:Option Addr}{n c:Nat}{es:List V2}(h:kP P w (.slice a n c) es):es.length=n/\n<=c/\c<=9223372036854775807/\X0 w a es/\(a=none->n=0):=by
 obtain⟨a',n',c',h1,h2,h3,h4,h5,h6,h7⟩:=h;simp only[Xy]at h1;obtain⟨rfl,rfl,rfl⟩:=h1;exact⟨h2,h3,h4,h5,h6⟩
theorem kP.lt{P:Nat->Prop}{w:World}{v:Value}{es:List V2}(h:kP P w v es):kP (fun k=>P k/\k<w.heap.size) w v es:=by
 obtain⟨a,n,c,h1,h2,h3,h4,h5,h6,h7⟩:=h;refine⟨a,n,c,h1,h2,h3,h4,h5,h6,fun ad e p=>⟨h7 ad e p,?_⟩⟩;obtain⟨b,o,hb,hc⟩:=h5.at (k:=0) QQ;rw[e]at hb;simp only[ZL]at hb;subst hb;exact Xb (hc 0 QQ).1
theorem Xd.nil(T:TypeId)(base:Nat)(w:World):Xd T base w (.slice none 0 0) []:=Yu _ _ _ _
theorem Xd.alloc{T:TypeId}{base:Nat}{w:World}{v:Value}{es:List V2}(h:Xd T base w v es)(o:Obj):Xd T base (w.alloc o) v es:=World.ownsRow.alloc h o
theorem Xd.mono{T:TypeId}{base base':Nat}{w:World}{v:Value}{es:List V2}(h:Xd T base w v es)(hb:base'<=base):Xd T base' w v es:=by
 exact QHX
theorem Xd.moved{T:TypeId}{base:Nat}{w w':World}{v:Value}{es:List V2}(h:Xd T base w v es)(hb:∀k,v.ownBlock=some k->w'.heap[k]? =w.heap[k]?):Xd T base w' v es:=by
 exact QIX
theorem Xd.kept{T:TypeId}{base:Nat}{w w':World}{v:Value}{es:List V2}(h:Xd T base w v es)(hb:Below w.heap.size w w'):Xd T base w' v es:=
 h.moved fun k hk=>hb.block k (XC h k hk).2
theorem Xd.row{T:TypeId}{base:Nat}{w:World}{v:Value}{es:List V2}(h:Xd T base w v es):∀k,v.ownBlock=some k->base<=k:=fun k hk=>(XC h k hk).1
theorem Xd.lt{T:TypeId}{base:Nat}{w:World}{v:Value}{es:List V2}(h:Xd T base w v es):∀k,v.ownBlock=some k->k<w.heap.size:=fun k hk=>(XC h k hk).2
theorem Xd.XP{T:TypeId}{base:Nat}{w:World}{v:Value}{es:List V2}{e':TypeId}{B:Nat}{cs:Array Value}(h:Xd T base w v es)(hB:Za w B cs e')(he:T≠e'):some B≠v.ownBlock:=by
 exact QGd
theorem Ao(us:List V2):∀(i:Nat) (h:i<us.length) (j:Nat),j<2->(us.flatMap V2.cells)[i*2+j]? =(us[i].cells)[j]?:=by
 induction us with
 | nil=>intro i h;simp at h
 | cons u r ih=>
  intro i h j hj
  match i with
  | 0=>
   simp only[List.flatMap_cons,Nat.zero_mul,XI,List.getElem_cons_zero];rw[XM (by simp[V2.cells];omega)]
  | i+1=>
   simp only[List.flatMap_cons,List.getElem_cons_succ];rw[XV (by simp[V2.cells];omega)];rw[show(i+1)*2+j-u.cells.length=i*2+j from by simp[V2.cells];omega];exact ih i QDA j hj
theorem Xd.bM{T:TypeId}{base:Nat}{w:World}{v:Value}{es:List V2}(h:Xd T base w v es):kP (fun k=>base<=k/\v.ownBlock=some k) w v es:=by
 rcases h.2 with⟨rfl,h0⟩|⟨g,cap,cur,rfl,hb',hgg,hn,hm,hs,ht⟩
 ·have:es=[]:=ZM h0
  subst this;exact kP.nil _ _
 ·refine⟨_,_,cap,rfl,rfl,hn,QC8,.inr ⟨g,0,rfl,fun i hi=>?_⟩,QJ,fun ad e _=>?_⟩
  ·have hc:=h.cells (g:=g) rfl
   have hadd:∀k,(⟨g,0,none⟩:Addr).add k=⟨g,0+k,none⟩:=fun k=>QF
   have h0:=hc (i*2+0) (xG es i).a (by rw[Ao es i hi 0 QQ,jO hi];rfl);have h1:=hc (i*2+1) (xG es i).b (by rw[Ao es i hi 1 QQ,jO hi];rfl);rw[hadd]at h0 h1;exact⟨h0,h1⟩
  ·simp only[ZL]at e
   subst e;exact⟨hb',rfl⟩
theorem Xd.form{T:TypeId}{base:Nat}{w:World}{v:Value}{es:List V2}(h:Xd T base w v es):∃a n c,v=.slice a n c:=by
 obtain⟨a,n,c,h1,_⟩:=h.bM;exact⟨a,n,c,h1⟩
theorem zf:∀us:List V2,(us.flatMap V2.cells).length=us.length*2
 | []=>rfl
 | u::r=>by rw[List.flatMap_cons,ZN,zf r,Xq,Nat.succ_mul];simp[V2.cells,Nat.add_comm]
theorem EZ{w:World}{ad:Addr}{us:List V2}(h:X0 w (some ad) us):∀j u,(us.flatMap V2.cells)[j]? =some u->w.cell? (ad.add j)=some u:=by
 intro j u hj;have hl:=zf us;have hjl:j<us.length*2:=by rw[<-hl];exact(List.getElem?_eq_some_iff.1 hj).1
 obtain⟨b,o,ha,hc⟩:=h.at (k:=j / 2) QQ;simp only[ZL]at ha;subst ha;have hadd:∀k,(⟨b,o,none⟩:Addr).add k=⟨b,o+k,none⟩:=fun k=>QF
 have hc2:=hc (j / 2) QQ;have e:j=j / 2*2+j % 2:=QQ;rw[e,Ao us (j / 2) QQ (j % 2) QQ,<-jO]at hj;rw[hadd,e];rcases(show j % 2=0\/j % 2=1 from QQ)with h2|h2
 ·rw[h2]at hj ⊢
  simp[V2.cells]at hj;rw[<-hj];exact hc2.1
 ·rw[h2]at hj ⊢
  simp[V2.cells]at hj;rw[<-hj];exact hc2.2
theorem PI{T ST:TypeId}{z:Value}{bytes:Nat}(hu:Tryz.prog.underlying ST=some (.slice T))(hinfo:(Tryz.prog.info? T).map (fun i=>(i.zero,i.size,i.bytes))=some (some z,2,bytes))(hz:z.cells.size=2)(hby:bytes<=32)
  {o:Oper} {a:Act} {K:Act->World->Prop} {Q:Exit->Act->World->Prop} {w:World} (s x:Operand)
  (ho:o.op=.call {callee:=.builtin .append,args:=#[s,x],argTypes:=#[ST,ST]})
  (base:Nat) (v:Value) (es us:List V2) (ad:Addr) (m c:Nat) (hs:a.eval s=v) (hx:a.eval x=.slice (some ad) m c)
  (hown:Xd T base w v es) (hy:X0 w (some ad) us) (hok:∀u∈us,V2.ok u) (hm:us.length=m) (hl:es.length+m<=4398046511104) (hbase:base<=w.heap.size)
  (h0:0<m) (h:∀v' w',Xd T base w' v' (es++us)->w.grownBy w' v.ownBlock->(v'.ownBlock=v.ownBlock\/v'.ownBlock=some w.heap.size)->K (a.put o.dst v') w'):
  o.wp Tryz.prog a w K Q:=by
 obtain⟨i0,hi,hz0,hz1,hz2⟩:=XR hinfo;refine wp_append_lies w s x ST ho base T i0 z 2 bytes hu hi hz0 hz1 hz2 hz QZ v es.length _ hs hown ad m c (us.flatMap V2.cells) hx ?_ (EZ hy) ?_ h0 ?_ ?_ hbase _ rfl ?_
 ·rw[<-hm];exact zf us
 ·intro u hu
  exact QIz
 ·unfold maxLen;omega
 ·have:(es.length+m)*bytes<=4398046511104*32:=Nat.mul_le_mul hl hby
  omega
 ·intro g cap w' h1 h2 h3 _
  refine h _ w' ?_ h2 (by rcases h3 with h3|rfl;exact .inl h3.symm;exact .inr rfl);unfold Xd;rw[ZN,List.flatMap_append,hm];exact h1
theorem QYJ{T ST:TypeId}{z:Value}{bytes:Nat}(hu:Tryz.prog.underlying ST=some (.slice T))(hinfo:(Tryz.prog.info? T).map (fun i=>(i.zero,i.size,i.bytes))=some (some z,2,bytes))(hz:z.cells.size=2)(hby:bytes<=32)
  {ops:Array Oper} {rest:List Oper} {o:Oper} {a:Act} {Q:Exit->Act->World->Prop} {w:World} (hgd:o.guard=none) (s x:Operand)
  (ho:o.op=.call {callee:=.builtin .append,args:=#[s,x],argTypes:=#[ST,ST]})
  (base:Nat) (v:Value) (es us:List V2) (ad:Addr) (m c:Nat) (hs:a.eval s=v) (hx:a.eval x=.slice (some ad) m c)
  (hown:Xd T base w v es) (hy:X0 w (some ad) us) (hok:∀u∈us,V2.ok u) (hm:us.length=m) (hl:es.length+m<=4398046511104) (hbase:base<=w.heap.size)
  (h0:0<m) (h:∀v' w',Xd T base w' v' (es++us)->w.grownBy w' v.ownBlock->(v'.ownBlock=v.ownBlock\/v'.ownBlock=some w.heap.size)->wpList Tryz.prog ops Q rest (a.put o.dst v') w'):
  wpList Tryz.prog ops Q (o::rest) a w:=
 wpList_plain hgd fun _ hK=>PI hu hinfo hz hby s x ho base v es us ad m c hs hx hown hy hok hm hl hbase h0 fun v' w' h1 h2 h3=>hK _ _ (h v' w' h1 h2 h3)
theorem SI{T ST:TypeId}{z:Value}{bytes:Nat}(hu:Tryz.prog.underlying ST=some (.slice T))(hinfo:(Tryz.prog.info? T).map (fun i=>(i.zero,i.size,i.bytes))=some (some z,2,bytes))(hz:z.cells.size=2)(hby:bytes<=32)
  {ops:Array Oper} {o:Oper} {a:Act} {K:Act->World->Prop} {Q:Exit->Act->World->Prop} {w:World} {E:Prop} (hw:Region.wanted o (yielded ops a.tmps)=true) (s x:Operand)
  (ho:o.op=.call {callee:=.builtin .append,args:=#[s,x],argTypes:=#[ST,ST]})
  (base:Nat) (v:Value) (es us:List V2) (ad:Addr) (m c:Nat) (hs:a.eval s=v) (hx:a.eval x=.slice (some ad) m c)
  (hown:Xd T base w v es) (hy:X0 w (some ad) us) (hok:∀u∈us,V2.ok u) (hm:us.length=m) (hl:es.length+m<=4398046511104) (hbase:base<=w.heap.size)
  (h0:0<m) (h:∀v' w',Xd T base w' v' (es++us)->w.grownBy w' v.ownBlock->(v'.ownBlock=v.ownBlock\/v'.ownBlock=some w.heap.size)->K (a.put o.dst v') w'):
  if Region.wanted o (yielded ops a.tmps)=true then Oper.wp Tryz.prog o a w K Q else E:=by
 rw[if_pos hw];exact PI hu hinfo hz hby s x ho base v es us ad m c hs hx hown hy hok hm hl hbase h0 h
theorem gX{T ST:TypeId}{z:Value}{bytes:Nat}(hu:Tryz.prog.underlying ST=some (.slice T))(hinfo:(Tryz.prog.info? T).map (fun i=>(i.zero,i.size,i.bytes))=some (some z,2,bytes))(hz:z.cells.size=2)(hby:bytes<=32)
  {ops:Array Oper} {rest:List Oper} {o:Oper} {a:Act} {Q:Exit->Act->World->Prop} {w:World} (hgd:o.guard=none) (s x:Operand)
  (ho:o.op=.call {callee:=.builtin .append,args:=#[s,x],argTypes:=#[ST,ST]})
  (base:Nat) (v:Value) (es us:List V2) (ad:Addr) (m c:Nat) (hs:a.eval s=v) (hx:a.eval x=.slice (some ad) m c)
  (hown:Xd T base w v es) (hy:X0 w (some ad) us) (hok:∀u∈us,V2.ok u) (hm:us.length=m) (hl:es.length+m<=4398046511104) (hbase:base<=w.heap.size)
  (h:∀v' w',Xd T base w' v' (es++us)->w.grownBy w' v.ownBlock->wpList Tryz.prog ops Q rest (a.put o.dst v') w'):
  wpList Tryz.prog ops Q (o::rest) a w:=by
 refine wpList_plain hgd fun _ hK=>?_
 obtain⟨i0,hi,hz0,hz1,hz2⟩:=XR hinfo;refine wp_append_own w s x ST ho base T i0 z 2 bytes hu hi hz0 hz1 hz2 hz QZ v es.length _ hs hown ad m c (us.flatMap V2.cells) hx ?_ (EZ hy) ?_ ?_ ?_ hbase ?_
 ·rw[<-hm];exact zf us
 ·intro u hu
  exact QIz
 ·unfold maxLen;omega
 ·have:(es.length+m)*bytes<=4398046511104*32:=Nat.mul_le_mul hl hby
  omega
 ·intro v' w' h1 h2 _
  refine hK _ _ (h v' w' ?_ h2);unfold Xd;rw[ZN,List.flatMap_append,hm];exact h1
theorem LK{w:World}{B:Nat}{x y:Value}{T:TypeId}(hB:Za w B #[x,y] T):X0 w (some ⟨B,0,none⟩) [⟨x,y⟩]:=by
 obtain⟨e0,e1,-,-⟩:=hB.two;refine .inr ⟨B,0,rfl,fun i hi=>?_⟩;obtain rfl:i=0:=QDb;exact⟨e0,e1⟩
inductive Tr where
 | nil:Tr
 | node (l:Tr) (c:Int) (r:Tr):Tr
def Tr.KA:Tr->List Int
 | .nil=>[]
 | .node l c r=>l.KA++c::r.KA
def Tr.xZ:Tr->Nat
 | .nil=>0
 | .node l _ r=>1+max l.xZ r.xZ
theorem Tr.vX:∀t:Tr,t.xZ<=t.KA.length
 | .nil=>ZB _
 | .node l c r=>by
  have h1:=l.vX;have h2:=r.vX;simp only[Tr.xZ,Tr.KA,ZN,Xq];omega
def Uh(w:World):Value->Tr->Prop
 | v,.nil=>v=.pointer none
 | v,.node l c r=>∃b lv rv,v=.pointer (some ⟨b,0,none⟩)/\w.cell? ⟨b,0,none⟩=some lv/\w.cell? ⟨b,1,none⟩=some rv/\w.cell? ⟨b,2,none⟩=some (.int .i64 c)/\
   w.cell? ⟨b,3,none⟩=some (.int .i64 ((Tr.node l c r).KA.length:Int))/\w.cell? ⟨b,4,none⟩=some (.int .i64 ((Tr.node l c r).xZ:Int))/\Uh w lv l/\Uh w rv r
theorem Uh.keep{w w':World}(hc:∀p v,w.cell? p=some v->w'.cell? p=some v):∀{t:Tr} {v:Value},Uh w v t->Uh w' v t
 | .nil,_,h=>h
 | .node l c r,_,⟨b,lv,rv,h0,h1,h2,h3,h4,h5,h6,h7⟩=>⟨b,lv,rv,h0,hc _ _ h1,hc _ _ h2,hc _ _ h3,hc _ _ h4,hc _ _ h5,h6.keep hc,h7.keep hc⟩
theorem Uh.below{w w':World}{v:Value}{t:Tr}(h:Uh w v t)(hb:Below w.heap.size w w'):Uh w' v t:=h.keep (Zd hb)
theorem Uh.form{w:World}{v:Value}{t:Tr}(h:Uh w v t):∃p,v=.pointer p:=by
 cases t with
 | nil=>exact⟨none,h⟩
 | node l c r=>obtain⟨b,_,_,h0,_⟩:=h;exact⟨_,h0⟩
theorem jb(v:Value)(t:Tr)(w:World)(h:Uh w v t):
  Calls Tryz.prog 82 #[v] w fun e w'=>e=.returned (.int .i64 (t.KA.length:Int))/\w=w':=by
 cases t with
 | nil=>
  obtain rfl:v=.pointer none:=h;go_enter Tryz.func82,Tryz.ntmps82
  exact QH5
 | node l c r=>
  obtain⟨b,lv,rv,rfl,h1,h2,h3,h4,h5,-,-⟩:=h;go_enter Tryz.func82,Tryz.ntmps82
  exact QH5
theorem D6(v:Value)(t:Tr)(w:World)(h:Uh w v t):
  Calls Tryz.prog 158 #[v] w fun e w'=>e=.returned (.int .i64 (t.xZ:Int))/\w=w':=by
 cases t with
 | nil=>
  obtain rfl:v=.pointer none:=h;go_enter Tryz.func158,Tryz.ntmps158
  exact QH5
 | node l c r=>
  obtain⟨b,lv,rv,rfl,h1,h2,h3,h4,h5,-,-⟩:=h;go_enter Tryz.func158,Tryz.ntmps158
  exact QH5
theorem Gj{W w1 w2:World}{a0:Addr}{u0:Value}(h:w1.cell? a0=some u0/\Below W.heap.size W w1)(hb:Below w1.heap.size w1 w2):w2.cell? a0=some u0/\Below W.heap.size W w2:=by
 obtain⟨h0,hW⟩:=h;exact⟨Zd hb _ _ h0,ZE hW hW.size hb⟩
theorem kb1{W w1:World}{P0:Prop}(h:P0/\Below W.heap.size W w1):Below W.heap.size W w1:=h.2
theorem Ints.QWy{w:World}{b o:Nat}{xs:List Int}{k:Nat}(h:Ints w (some ⟨b,o,none⟩) xs)(hk:k<xs.length):w.cell? ⟨b,o+k,none⟩=some (.int .i64 (ix xs k)):=by
 obtain⟨b',o',e,hc⟩:=h.at hk;cases e
 exact hc k hk
theorem gT{xs:List Int}{k:Nat}(h:k<xs.length):xs.take k++ix xs k::xs.drop (k+1)=xs:=by
 rw[Ya h,<-List.drop_eq_getElem_cons h,List.take_append_drop]
theorem Af(p:Option Addr)(t:Tr)(w:World)(h:Uh w (.pointer p) t):
  Calls Tryz.prog 59 #[.agg #[.pointer p]] w fun e w'=>e=.returned (.int .i64 (t.KA.length:Int))/\Below w.heap.size w w':=by
 have hb:=ZR w (.cells #[.pointer p] 81);have HS:=Zy (jb _ _ _ (h.below hb));clear h;go_enter Tryz.func59,Tryz.ntmps59
 go_wp2_with fail
 refine HS.out.mono ?_;rintro e w1 ⟨rfl,rfl⟩;go_wp2;go_ret;exact⟨rfl,hb⟩
theorem Mk{w:World}{B3 B4:Nat}{cs ds:Array Value}(h:Za w B3 cs 22)(h':Za w B4 ds 148):B3≠B4:=by
 rintro rfl;unfold Za at h h';rw[h]at h';simp at h'
theorem QQo{w:World}{B3 B4:Nat}{cs ds:Array Value}(h:Za w B3 cs 81)(h':Za w B4 ds 148):B3≠B4:=by
 rintro rfl;unfold Za at h h';rw[h]at h';simp at h'
structure WJ (base0 base:Nat) (w:World) (B3 B4:Nat) (sv:Value) (s:List Int):Prop where
 b3:Za w B3 #[sv] 22
 b4:Za w B4 #[(.func (.func 76) #[] #[.pointer (some ⟨B4,0,none⟩),.pointer (some ⟨B3,0,none⟩)])] 148
 own:Own 3 base w sv s
 l3:base0<=B3
 l4:base0<=B4
 lb:base0<=base
 sz:base<=w.heap.size
theorem WJ.drew{base0 base:Nat}{w:World}{B3 B4:Nat}{sv:Value}{s:List Int}(h:WJ base0 base w B3 B4 sv s):WJ base0 base w.drew B3 B4 sv s:=
 ⟨h.b3.drew,h.b4.drew,h.own.drew,h.l3,h.l4,h.lb,show base<=w.drew.heap.size from h.sz⟩
theorem TP(w0:World)(base B3 B4:Nat):∀(t:Tr) (p:Option Addr) (s:List Int) (sv:Value) (w:World),Uh w0 (.pointer p) t->Below w0.heap.size w0 w->WJ w0.heap.size base w B3 B4 sv s->s.length+t.KA.length<=20000->
  Calls Tryz.prog 76 #[.pointer p,.pointer (some ⟨B4,0,none⟩),.pointer (some ⟨B3,0,none⟩)] w fun e w'=>e=.returned (.tuple #[])/\(∃sv',WJ w0.heap.size base w' B3 B4 sv' (s++t.KA))/\Below w0.heap.size w0 w':=by
 intro t;induction t with
 | nil=>
  intro p s sv w h hb hW hsz;simp only[Uh,Value.pointer.injEq]at h;subst h;have HW:=Zy hW;clear hW;go_enter Tryz.func76,Tryz.ntmps76
  go_wp2
  go_end0
  exact⟨rfl,⟨sv,by simpa[Tr.KA]using HW.out⟩,hb⟩
 | node l c r ihl ihr=>
  intro p s sv w h hb hW hsz;obtain⟨b,lv,rv,hv,l1,l2,l3,-,-,hl,hr⟩:=h;obtain⟨lp,rfl⟩:=hl.form;obtain⟨rp,rfl⟩:=hr.form;simp only[Value.pointer.injEq]at hv;subst hv;have hlen:(Tr.node l c r).KA.length=l.KA.length+1+r.KA.length:=by simp only[Tr.KA,ZN,Xq];omega
  rw[hlen]at hsz;have HIL:=Zy ihl;have HIR:=Zy ihr;have HL:=Zy hl;have HR:=Zy hr;have HW:=Zy hW;have Qyn:=Zy (show(Tr.node l c r).KA=l.KA++c::r.KA from rfl);have g1:=Zd hb _ _ l1;have q4:=hW.b4.cell 0;simp only[List.getElem?_toArray,List.getElem?_cons_zero]at q4;clear ihl ihr hl hr hW hlen;go_enter Tryz.func76,Tryz.ntmps76
  go_upto_region 1 with fail
  go_cut [6] (fun v wx=>(∃sv',WJ w0.heap.size base wx B3 B4 sv' (s++l.KA))/\Below w0.heap.size w0 wx)
  case first=>
   go_region_law (first|(go_simp;go_at_call 76;((with_reducible refine(HIL.out lp s sv _ HL.out hb.drew HW.out.drew QQ).mono ?_);rintro e w4 ⟨rfl,hW4,hb4⟩)))
   all_goals
    go_wp2;go_meet;exact⟨hW4,hb4⟩
  case rest=>
   obtain⟨⟨sv4,hW4⟩,hb4⟩:=hcut;obtain⟨W4,hWe⟩:∃W4,W4=wc:=⟨_,rfl⟩;subst hWe;obtain⟨sa,sn,sc,rfl⟩:=hW4.own.form;have xB:=Zy hW4;have g3:=Zd hb4 _ _ l3;obtain⟨d3,f3⟩:=hW4.b3.one;have d3a:=(hW4.b3.alloc (.cells #[.int .i64 c] 3)).one.1;have g3a:=Zd (ZR W4 (.cells #[.int .i64 c] 3)) _ _ g3;have QU3:(s++l.KA).length+1+r.KA.length<=20000:=by rw[ZN];omega
   obtain⟨s4,hs4⟩:∃s4,s++l.KA=s4:=⟨_,rfl⟩;rw[hs4]at QU3 hW4 xB;have HS4:=Zy hs4;clear q4 g1 hs4;go_upto_region 2 with fail
   go_cut [12] (fun v wx=>(∃sv',WJ w0.heap.size base wx B3 B4 sv' (s4++[c]))/\Below w0.heap.size w0 wx)
   case first=>
    go_region_law (refine SN QDu _ _ rfl base (.slice sa sn sc) s4 c _ rfl rfl ((xB.out.own.drew).alloc _) (CQ W4.drew (.int .i64 c) 3 rfl) QQ (XJ (show base<=W4.drew.heap.size from xB.out.sz) _) ?_;intro v9 w9 o9 Xm;obtain⟨a9,n9,c9,rfl⟩:=o9.form;have QQL:=((xB.out.b3.drew).alloc _).grown Xm (xB.out.own.XP xB.out.b3 QZ);have QV4:=((xB.out.b4.drew).alloc _).grown Xm (xB.out.own.XP xB.out.b4 QZ);obtain⟨p3,q3⟩:=QQL.one)
    all_goals
     have Jp:=(hb4.drew.alloc (show w0.heap.size<=W4.drew.heap.size from hb4.size) (.cells #[.int .i64 c] 3)).grown Xm (XJ (show w0.heap.size<=W4.drew.heap.size from hb4.size) _) (fun q hq=>Zf xB.out.lb (xB.out.own.row q hq));have iP:B3≠B4:=Mk xB.out.b3 xB.out.b4;have hfin:WJ w0.heap.size base (w9.setCell ⟨B3,0,none⟩ (.slice a9 n9 c9)) B3 B4 (.slice a9 n9 c9) (s4++[c]):=
      ⟨by simpa using QQL.set 0 (.slice a9 n9 c9),QV4.other (a:=⟨B3,0,none⟩) (Ne.symm iP) _,o9.other (a:=⟨B3,0,none⟩) (o9.XP QQL QZ) _,xB.out.l3,xB.out.l4,xB.out.lb,by rw[size_setCell];exact Zf (XJ (show base<=W4.drew.heap.size from xB.out.sz) _) Xm.size⟩
     have HF:=Zy hfin;have HB:=Zy (Jp.setCell (p:=⟨B3,0,none⟩) xB.out.l3 (.slice a9 n9 c9));clear Jp hfin QQL QV4 o9 Xm;go_wp2;go_meet;exact⟨⟨_,HF.out⟩,HB.out⟩
   case rest=>
    obtain⟨⟨sv5,hW5⟩,hb5⟩:=hcut;obtain⟨W5,hWe⟩:∃W5,W5=wc:=⟨_,rfl⟩;subst hWe;have HW5:=Zy hW5;have g2:=Zd hb5 _ _ l2;have q5:=hW5.b4.one.1;clear hW5 d3 f3 d3a g3a g3;go_upto_region 3 with fail
    go_region_law (first|(go_simp;go_at_call 76;((with_reducible refine(HIR.out rp (s4++[c]) sv5 _ HR.out hb5.drew HW5.out.drew (by rw[ZN,List.length_singleton];omega)).mono ?_);rintro e w6 ⟨rfl,hW6,hb6⟩)))
    all_goals
     have HW6:=Zy hW6;clear hW6;go_wp2
     go_end0
     obtain⟨rW,h6⟩:=HW6.out;refine⟨rfl,⟨rW,?_⟩,hb6⟩;rw[Qyn.out,show s++(l.KA++c::r.KA)=s4++[c]++r.KA from by rw[<-HS4.out];simp];exact h6
theorem TZ(p:Option Addr)(t:Tr)(w:World)(h:Uh w (.pointer p) t)(hsz:t.KA.length<=10000):
  Calls Tryz.prog 51 #[.agg #[.pointer p]] w (zw t.KA w):=by
 have hb1:=ZR w (.cells #[.pointer p] 81);have hB1:=Za.new w #[.pointer p] 81;have HT:=Zy h;have hlen:=Af p t _ (h.below hb1);clear h;go_enter Tryz.func51,Tryz.ntmps51
 go_upto_region 1 with fail
 have hzz:w.heap.size<(w.alloc (.cells #[.pointer p] 81)).heap.size:=QJ;generalize(w.alloc (.cells #[.pointer p] 81))=w1 at *;obtain⟨c0,-⟩:=hB1.one;go_wp2_with fail
 refine hlen.mono ?_;rintro e w2 ⟨rfl,hb2⟩;have hB2:=hB1.below hb2 hB1.lt;have Z0:=ZE hb1 (Xh hzz) hb2;have hz2:w.heap.size<=w2.heap.size:=Z0.size;obtain⟨n,hn⟩:∃n,t.KA.length=n:=⟨_,rfl⟩;rw[hn]at hsz ⊢;have hmk:∀w:World,(Instr.makeSlice 22 (.int .i64 0) (.int .i64 (n:Int))).run Tryz.prog w=.ok (.slice (some ⟨w.heap.size,0,none⟩) 0 n) (w.alloc (.cells (madeCells #[.int .i64 0] n) 3)):=fun w=>yl 0 n (Z4 _) QQ w
 clear c0 hlen;go_upto_region 3 with fail
 have k3:=(Za.new (w2.alloc (.cells (madeCells #[.int .i64 0] n) 3)) #[.slice (some ⟨w2.heap.size,0,none⟩) 0 n] 22).alloc (.cells #[.nilFunc] 148);have k4:=Za.new ((w2.alloc (.cells (madeCells #[.int .i64 0] n) 3)).alloc (.cells #[.slice (some ⟨w2.heap.size,0,none⟩) 0 n] 22)) #[.nilFunc] 148;rw[Zu]at k3;rw[Zu,Zu]at k4;have ko:=(((gY w2 w.heap.size n hz2 QQ).alloc (.cells #[.slice (some ⟨w2.heap.size,0,none⟩) 0 n] 22)).alloc (.cells #[.nilFunc] 148));have kb:=(yY w2 (.cells (madeCells #[.int .i64 0] n) 3) (.cells #[.slice (some ⟨w2.heap.size,0,none⟩) 0 n] 22) (.cells #[.nilFunc] 148));generalize(((w2.alloc (.cells (madeCells #[.int .i64 0] n) 3)).alloc (.cells #[.slice (some ⟨w2.heap.size,0,none⟩) 0 n] 22)).alloc (.cells #[.nilFunc] 148))=w3 at *;have j4:w.heap.size<=w2.heap.size+1+1:=QQ;have j3:w.heap.size<=w2.heap.size+1:=QQ;generalize w2.heap.size+1+1=B4 at *;generalize w2.heap.size+1=B3 at *;have iP:B3≠B4:=Mk k3 k4;have hWJ:WJ w.heap.size w.heap.size (w3.setCell ⟨B4,0,none⟩ (.func (.func 76) #[] #[.pointer (some ⟨B4,0,none⟩),.pointer (some ⟨B3,0,none⟩)])) B3 B4 (.slice (some ⟨w2.heap.size,0,none⟩) 0 n) []:=
  ⟨k3.other (a:=⟨B4,0,none⟩) iP _,by simpa using k4.set 0 (.func (.func 76) #[] #[.pointer (some ⟨B4,0,none⟩),.pointer (some ⟨B3,0,none⟩)]),ko.other (a:=⟨B4,0,none⟩) (ko.XP k4 QZ) _,j3,j4,ZB _,by rw[size_setCell];exact Zf hz2 kb.size⟩
 have Ji:=(ZE Z0 hz2 kb).setCell (p:=⟨B4,0,none⟩) j4 (.func (.func 76) #[] #[.pointer (some ⟨B4,0,none⟩),.pointer (some ⟨B3,0,none⟩)]);have HWJ:=Zy hWJ;have aZ:=(hB2.below kb hB2.lt).other (a:=⟨B4,0,none⟩) (QQo (hB2.below kb hB2.lt) k4) (.func (.func 76) #[] #[.pointer (some ⟨B4,0,none⟩),.pointer (some ⟨B3,0,none⟩)]);obtain⟨n0,n1⟩:=k4.one;have hst:∀w':World,(store ⟨B4,0,none⟩ (.func (.func 76) #[] #[.pointer (some ⟨B4,0,none⟩),.pointer (some ⟨B3,0,none⟩)])).run Tryz.prog w'=_:=fun w'=>run_store _ w' _ _ _ rfl
 have n2:=hWJ.b4.one.1;obtain⟨n3,-⟩:=aZ.one;clear hWJ hB2 k3 k4 ko kb hb2;go_wp2_with fail
 refine(TP w w.heap.size B3 B4 t p [] _ _ HT.out Ji HWJ.out QY).mono ?_;rintro e w5 ⟨rfl,⟨sv5,hW5⟩,hb5⟩;obtain⟨m0,-⟩:=hW5.b3.one;have HO:=Zy hW5.own;clear hW5;go_wp2;go_ret;exact⟨_,rfl,by simpa using HO.out,hb5⟩
end Go.Proofs.YtmdnepkekekncaaGreat
