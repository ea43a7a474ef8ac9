/- joined, no condition of its own. -/
import Derived.Test.YtmdcencmiopmmaaGreatJnT
import Derived.Test.YtmdcencmiopmmaaGreatJnJ2
import Derived.Test.YtmdcencmiopmmaaGreatJnJ3
import Derived.Test.YtmdcencmiopmmaaGreatJnJ20
import Derived.Test.YtmdcencmiopmmaaGreatJnJ30
set_option linter.unusedVariables false
set_option linter.unusedSimpArgs false
set_option maxRecDepth 100000
set_option maxHeartbeats 12000000
namespace Go.Proofs.YtmdcencmiopmmaaGreat
open Go.RowKit
structure V2 where
 a:Value
 b:Value
def V2.cells(s:V2):List Value:=[s.a,s.b]
def zT(es:List V2)(i:Nat):V2:=es.getD i ⟨undef,undef⟩
theorem yT{es:List V2}{i:Nat}(h:i<es.length):zT es i=es[i]:=by simp[zT,h]
theorem uR{es us:List V2}{i:Nat}(h:i<es.length):zT (es++us) i=zT es i:=by unfold zT;simp[XR h]
theorem yS{es us:List V2}{i:Nat}:zT (es++us) (es.length+i)=zT us i:=by unfold zT;simp[XY]
theorem Gy{es:List V2}{k i:Nat}:zT (es.drop k) i=zT es (k+i):=by unfold zT;simp
theorem Gz{es:List V2}{k i:Nat}(h:i<k):zT (es.take k) i=zT es i:=by unfold zT;simp[List.getElem?_take,h]
def V2.ok(s:V2):Prop:=s.a.oneCell'=true/\s.b.oneCell'=true
def Xb(T:TypeId)(base:Nat)(w:World)(v:Value)(es:List V2):Prop:=w.ownsRow base T 2 v es.length (es.flatMap V2.cells)
def X0(w:World)(a:Option Addr)(es:List V2):Prop:=
 es=[]\/∃b o,a=some ⟨b,o,none⟩/\∀i,i<es.length->w.cell? ⟨b,o+i*2,none⟩=some (zT es i).a/\w.cell? ⟨b,o+(i*2+1),none⟩=some (zT es i).b
theorem X0.nil(w:World)(a:Option Addr):X0 w a []:=.inl rfl
theorem X0.at{w:World}{a:Option Addr}{es:List V2}(h:X0 w a es){k:Nat}(hk:k<es.length):
  ∃b o,a=some ⟨b,o,none⟩/\∀i,i<es.length->w.cell? ⟨b,o+i*2,none⟩=some (zT es i).a/\w.cell? ⟨b,o+(i*2+1),none⟩=some (zT es i).b:=by
 exact QFg
theorem X0.keep{w w':World}{a:Option Addr}{es:List V2}(h:X0 w a es)(hc:∀p v,w.cell? p=some v->w'.cell? p=some v):X0 w' a es:=by
 rcases h with h|⟨b,o,ha,h⟩
 ·exact .inl h
 ·exact .inr ⟨b,o,ha,fun i hi=>⟨hc _ _ (h i hi).1,hc _ _ (h i hi).2⟩⟩
theorem X0.drop{w:World}{b o:Nat}{es:List V2}(h:X0 w (some ⟨b,o,none⟩) es)(k:Nat):X0 w (some ⟨b,o+k*2,none⟩) (es.drop k):=by
 rcases h with h|⟨b',o',ha,h⟩
 ·subst h;exact .inl QJ
 ·simp only[ZM,YB]at ha
  obtain⟨rfl,rfl,-⟩:=ha;refine .inr ⟨b,o+k*2,rfl,fun i hi=>?_⟩;have hl:k+i<es.length:=Qa;have:=h (k+i) hl;rw[Gy];rw[show o+k*2+i*2=o+(k+i)*2 from QQ,show o+k*2+(i*2+1)=o+((k+i)*2+1)from QQ];exact this
theorem X0.take{w:World}{a:Option Addr}{es:List V2}(h:X0 w a es)(k:Nat):X0 w a (es.take k):=by
 rcases h with h|⟨b,o,ha,h⟩
 ·subst h;exact .inl QJ
 ·refine .inr ⟨b,o,ha,fun i hi=>?_⟩
  have hl:i<k/\i<es.length:=Qa;rw[Gz hl.1];exact h i hl.2
def je(P:Nat->Prop)(w:World)(v:Value)(es:List V2):Prop:=∃a n c,v=.slice a n c/\es.length=n/\n<=c/\c<=9223372036854775807/\X0 w a es/\(a=none->n=0)/\∀ad,a=some ad->0<n->P ad.block
theorem je.keep{P:Nat->Prop}{w w':World}{v:Value}{es:List V2}(h:je P w v es)(hc:∀p v,P p.block->w.cell? p=some v->w'.cell? p=some v):je P w' v es:=by
 obtain⟨a,n,c,h1,h2,h3,h4,h5,h6,h7⟩:=h;refine⟨a,n,c,h1,h2,h3,h4,?_,h6,h7⟩;rcases h5 with h5|⟨b,o,rfl,h5⟩
 ·exact .inl h5
 ·exact .inr ⟨b,o,rfl,fun i hi=>⟨hc _ _ (show P b from h7 ⟨b,o,none⟩ rfl QQ) (h5 i hi).1,hc _ _ (show P b from h7 ⟨b,o,none⟩ rfl QQ) (h5 i hi).2⟩⟩
theorem je.imp{P Q:Nat->Prop}{w:World}{v:Value}{es:List V2}(h:je P w v es)(hi:∀k,P k->Q k):je Q w v es:=by
 exact QEI
theorem je.nil(P:Nat->Prop)(w:World):je P w (.slice none 0 0) []:=⟨none,0,0,rfl,rfl,ZB _,QQ,X0.nil _ _,fun _=>rfl,fun ad e=>QAU⟩
theorem je.get{P:Nat->Prop}{w:World}{a:Option Addr}{n c:Nat}{es:List V2}(h:je P w (.slice a n c) es):es.length=n/\n<=c/\c<=9223372036854775807/\X0 w a es/\(a=none->n=0):=by
 obtain⟨a',n',c',h1,h2,h3,h4,h5,h6,h7⟩:=h;simp only[Xx]at h1;obtain⟨rfl,rfl,rfl⟩:=h1;exact⟨h2,h3,h4,h5,h6⟩
theorem je.lt{P:Nat->Prop}{w:World}{v:Value}{es:List V2}(h:je P w v es):je (fun k=>P k/\k<w.heap.size) w v es:=by
 obtain⟨a,n,c,h1,h2,h3,h4,h5,h6,h7⟩:=h;refine⟨a,n,c,h1,h2,h3,h4,h5,h6,fun ad e p=>⟨h7 ad e p,?_⟩⟩;obtain⟨b,o,hb,hc⟩:=h5.at (k:=0) QQ;rw[e]at hb;simp only[ZM]at hb;subst hb;exact XU (hc 0 QQ).1
theorem Xb.nil(T:TypeId)(base:Nat)(w:World):Xb T base w (.slice none 0 0) []:=YR _ _ _ _
theorem Xb.alloc{T:TypeId}{base:Nat}{w:World}{v:Value}{es:List V2}(h:Xb T base w v es)(o:Obj):Xb T base (w.alloc o) v es:=World.ownsRow.alloc h o
theorem Xb.mono{T:TypeId}{base base':Nat}{w:World}{v:Value}{es:List V2}(h:Xb T base w v es)(hb:base'<=base):Xb T base' w v es:=by
 exact QEW
theorem Xb.moved{T:TypeId}{base:Nat}{w w':World}{v:Value}{es:List V2}(h:Xb T base w v es)(hb:∀k,v.ownBlock=some k->w'.heap[k]? =w.heap[k]?):Xb T base w' v es:=by
 exact QEn
theorem Xb.kept{T:TypeId}{base:Nat}{w w':World}{v:Value}{es:List V2}(h:Xb T base w v es)(hb:Below w.heap.size w w'):Xb T base w' v es:=
 h.moved fun k hk=>hb.block k (XH h k hk).2
theorem Xb.row{T:TypeId}{base:Nat}{w:World}{v:Value}{es:List V2}(h:Xb T base w v es):∀k,v.ownBlock=some k->base<=k:=fun k hk=>(XH h k hk).1
theorem Xb.lt{T:TypeId}{base:Nat}{w:World}{v:Value}{es:List V2}(h:Xb T base w v es):∀k,v.ownBlock=some k->k<w.heap.size:=fun k hk=>(XH h k hk).2
theorem Xb.Xa{T:TypeId}{base:Nat}{w:World}{v:Value}{es:List V2}{e':TypeId}{B:Nat}{cs:Array Value}(h:Xb T base w v es)(hB:Za w B cs e')(he:T≠e'):some B≠v.ownBlock:=by
 exact QDS
theorem vG(us:List V2):∀(i:Nat) (h:i<us.length) (j:Nat),j<2->(us.flatMap V2.cells)[i*2+j]? =(us[i].cells)[j]?:=by
 induction us with
 | nil=>intro i h;simp at h
 | cons u r ih=>
  intro i h j hj
  match i with
  | 0=>
   simp only[List.flatMap_cons,Nat.zero_mul,XN,List.getElem_cons_zero];rw[XR (by simp[V2.cells];omega)]
  | i+1=>
   simp only[List.flatMap_cons,List.getElem_cons_succ];rw[XY (by simp[V2.cells];omega)];rw[show(i+1)*2+j-u.cells.length=i*2+j from by simp[V2.cells];omega];exact ih i QAF j hj
theorem Xb.su{T:TypeId}{base:Nat}{w:World}{v:Value}{es:List V2}(h:Xb T base w v es):je (fun k=>base<=k/\v.ownBlock=some k) w v es:=by
 rcases h.2 with⟨rfl,h0⟩|⟨g,cap,cur,rfl,hb',hgg,hn,hm,hs,ht⟩
 ·have:es=[]:=Ze h0
  subst this;exact je.nil _ _
 ·refine⟨_,_,cap,rfl,rfl,hn,QAE,.inr ⟨g,0,rfl,fun i hi=>?_⟩,QJ,fun ad e _=>?_⟩
  ·have hc:=h.cells (g:=g) rfl
   have hadd:∀k,(⟨g,0,none⟩:Addr).add k=⟨g,0+k,none⟩:=fun k=>QN
   have h0:=hc (i*2+0) (zT es i).a (by rw[vG es i hi 0 QQ,yT hi];rfl);have h1:=hc (i*2+1) (zT es i).b (by rw[vG es i hi 1 QQ,yT hi];rfl);rw[hadd]at h0 h1;exact⟨h0,h1⟩
  ·simp only[ZM]at e
   subst e;exact⟨hb',rfl⟩
theorem Xb.form{T:TypeId}{base:Nat}{w:World}{v:Value}{es:List V2}(h:Xb T base w v es):∃a n c,v=.slice a n c:=by
 obtain⟨a,n,c,h1,_⟩:=h.su;exact⟨a,n,c,h1⟩
theorem zq:∀us:List V2,(us.flatMap V2.cells).length=us.length*2
 | []=>rfl
 | u::r=>by rw[List.flatMap_cons,Zd,zq r,XD,Nat.succ_mul];simp[V2.cells,Nat.add_comm]
theorem Ce{w:World}{ad:Addr}{us:List V2}(h:X0 w (some ad) us):∀j u,(us.flatMap V2.cells)[j]? =some u->w.cell? (ad.add j)=some u:=by
 intro j u hj;have hl:=zq us;have hjl:j<us.length*2:=by rw[<-hl];exact(List.getElem?_eq_some_iff.1 hj).1
 obtain⟨b,o,ha,hc⟩:=h.at (k:=j / 2) QQ;simp only[ZM]at ha;subst ha;have hadd:∀k,(⟨b,o,none⟩:Addr).add k=⟨b,o+k,none⟩:=fun k=>QN
 have hc2:=hc (j / 2) QQ;have e:j=j / 2*2+j % 2:=QQ;rw[e,vG us (j / 2) QQ (j % 2) QQ,<-yT]at hj;rw[hadd,e];rcases(show j % 2=0\/j % 2=1 from QQ)with h2|h2
 ·rw[h2]at hj ⊢
  simp[V2.cells]at hj;rw[<-hj];exact hc2.1
 ·rw[h2]at hj ⊢
  simp[V2.cells]at hj;rw[<-hj];exact hc2.2
theorem Nn{T ST:TypeId}{z:Value}{bytes:Nat}(hu:Tryz.prog.underlying ST=some (.slice T))(hinfo:(Tryz.prog.info? T).map (fun i=>(i.zero,i.size,i.bytes))=some (some z,2,bytes))(hz:z.cells.size=2)(hby:bytes<=32)
  {o:Oper} {a:Act} {K:Act->World->Prop} {Q:Exit->Act->World->Prop} {w:World} (s x:Operand)
  (ho:o.op=.call {callee:=.builtin .append,args:=#[s,x],argTypes:=#[ST,ST]})
  (base:Nat) (v:Value) (es us:List V2) (ad:Addr) (m c:Nat) (hs:a.eval s=v) (hx:a.eval x=.slice (some ad) m c)
  (hown:Xb T base w v es) (hy:X0 w (some ad) us) (hok:∀u∈us,V2.ok u) (hm:us.length=m) (hl:es.length+m<=4398046511104) (hbase:base<=w.heap.size)
  (h0:0<m) (h:∀v' w',Xb T base w' v' (es++us)->w.grownBy w' v.ownBlock->(v'.ownBlock=v.ownBlock\/v'.ownBlock=some w.heap.size)->K (a.put o.dst v') w'):
  o.wp Tryz.prog a w K Q:=by
 obtain⟨i0,hi,hz0,hz1,hz2⟩:=Xf hinfo;refine wp_append_lies w s x ST ho base T i0 z 2 bytes hu hi hz0 hz1 hz2 hz QZ v es.length _ hs hown ad m c (us.flatMap V2.cells) hx ?_ (Ce hy) ?_ h0 ?_ ?_ hbase _ rfl ?_
 ·rw[<-hm];exact zq us
 ·intro u hu
  exact QE1
 ·unfold maxLen;omega
 ·have:(es.length+m)*bytes<=4398046511104*32:=Nat.mul_le_mul hl hby
  omega
 ·intro g cap w' h1 h2 h3 _
  refine h _ w' ?_ h2 (by rcases h3 with h3|rfl;exact .inl h3.symm;exact .inr rfl);unfold Xb;rw[Zd,List.flatMap_append,hm];exact h1
theorem QQn{T ST:TypeId}{z:Value}{bytes:Nat}(hu:Tryz.prog.underlying ST=some (.slice T))(hinfo:(Tryz.prog.info? T).map (fun i=>(i.zero,i.size,i.bytes))=some (some z,2,bytes))(hz:z.cells.size=2)(hby:bytes<=32)
  {ops:Array Oper} {rest:List Oper} {o:Oper} {a:Act} {Q:Exit->Act->World->Prop} {w:World} (hgd:o.guard=none) (s x:Operand)
  (ho:o.op=.call {callee:=.builtin .append,args:=#[s,x],argTypes:=#[ST,ST]})
  (base:Nat) (v:Value) (es us:List V2) (ad:Addr) (m c:Nat) (hs:a.eval s=v) (hx:a.eval x=.slice (some ad) m c)
  (hown:Xb T base w v es) (hy:X0 w (some ad) us) (hok:∀u∈us,V2.ok u) (hm:us.length=m) (hl:es.length+m<=4398046511104) (hbase:base<=w.heap.size)
  (h0:0<m) (h:∀v' w',Xb T base w' v' (es++us)->w.grownBy w' v.ownBlock->(v'.ownBlock=v.ownBlock\/v'.ownBlock=some w.heap.size)->wpList Tryz.prog ops Q rest (a.put o.dst v') w'):
  wpList Tryz.prog ops Q (o::rest) a w:=
 wpList_plain hgd fun _ hK=>Nn hu hinfo hz hby s x ho base v es us ad m c hs hx hown hy hok hm hl hbase h0 fun v' w' h1 h2 h3=>hK _ _ (h v' w' h1 h2 h3)
theorem Py{T ST:TypeId}{z:Value}{bytes:Nat}(hu:Tryz.prog.underlying ST=some (.slice T))(hinfo:(Tryz.prog.info? T).map (fun i=>(i.zero,i.size,i.bytes))=some (some z,2,bytes))(hz:z.cells.size=2)(hby:bytes<=32)
  {ops:Array Oper} {o:Oper} {a:Act} {K:Act->World->Prop} {Q:Exit->Act->World->Prop} {w:World} {E:Prop} (hw:Region.wanted o (yielded ops a.tmps)=true) (s x:Operand)
  (ho:o.op=.call {callee:=.builtin .append,args:=#[s,x],argTypes:=#[ST,ST]})
  (base:Nat) (v:Value) (es us:List V2) (ad:Addr) (m c:Nat) (hs:a.eval s=v) (hx:a.eval x=.slice (some ad) m c)
  (hown:Xb T base w v es) (hy:X0 w (some ad) us) (hok:∀u∈us,V2.ok u) (hm:us.length=m) (hl:es.length+m<=4398046511104) (hbase:base<=w.heap.size)
  (h0:0<m) (h:∀v' w',Xb T base w' v' (es++us)->w.grownBy w' v.ownBlock->(v'.ownBlock=v.ownBlock\/v'.ownBlock=some w.heap.size)->K (a.put o.dst v') w'):
  if Region.wanted o (yielded ops a.tmps)=true then Oper.wp Tryz.prog o a w K Q else E:=by
 rw[if_pos hw];exact Nn hu hinfo hz hby s x ho base v es us ad m c hs hx hown hy hok hm hl hbase h0 h
theorem ag{T ST:TypeId}{z:Value}{bytes:Nat}(hu:Tryz.prog.underlying ST=some (.slice T))(hinfo:(Tryz.prog.info? T).map (fun i=>(i.zero,i.size,i.bytes))=some (some z,2,bytes))(hz:z.cells.size=2)(hby:bytes<=32)
  {ops:Array Oper} {rest:List Oper} {o:Oper} {a:Act} {Q:Exit->Act->World->Prop} {w:World} (hgd:o.guard=none) (s x:Operand)
  (ho:o.op=.call {callee:=.builtin .append,args:=#[s,x],argTypes:=#[ST,ST]})
  (base:Nat) (v:Value) (es us:List V2) (ad:Addr) (m c:Nat) (hs:a.eval s=v) (hx:a.eval x=.slice (some ad) m c)
  (hown:Xb T base w v es) (hy:X0 w (some ad) us) (hok:∀u∈us,V2.ok u) (hm:us.length=m) (hl:es.length+m<=4398046511104) (hbase:base<=w.heap.size)
  (h:∀v' w',Xb T base w' v' (es++us)->w.grownBy w' v.ownBlock->wpList Tryz.prog ops Q rest (a.put o.dst v') w'):
  wpList Tryz.prog ops Q (o::rest) a w:=by
 refine wpList_plain hgd fun _ hK=>?_
 obtain⟨i0,hi,hz0,hz1,hz2⟩:=Xf hinfo;refine wp_append_own w s x ST ho base T i0 z 2 bytes hu hi hz0 hz1 hz2 hz QZ v es.length _ hs hown ad m c (us.flatMap V2.cells) hx ?_ (Ce hy) ?_ ?_ ?_ hbase ?_
 ·rw[<-hm];exact zq us
 ·intro u hu
  exact QE1
 ·unfold maxLen;omega
 ·have:(es.length+m)*bytes<=4398046511104*32:=Nat.mul_le_mul hl hby
  omega
 ·intro v' w' h1 h2 _
  refine hK _ _ (h v' w' ?_ h2);unfold Xb;rw[Zd,List.flatMap_append,hm];exact h1
theorem Hq{w:World}{B:Nat}{x y:Value}{T:TypeId}(hB:Za w B #[x,y] T):X0 w (some ⟨B,0,none⟩) [⟨x,y⟩]:=by
 obtain⟨e0,e1,-,-⟩:=hB.two;refine .inr ⟨B,0,rfl,fun i hi=>?_⟩;obtain rfl:i=0:=QAs;exact⟨e0,e1⟩
inductive Tr where
 | nil:Tr
 | node (l:Tr) (c:Int) (r:Tr):Tr
def Tr.Kk:Tr->List Int
 | .nil=>[]
 | .node l c r=>l.Kk++c::r.Kk
def Tr.zA:Tr->Nat
 | .nil=>0
 | .node l _ r=>1+max l.zA r.zA
theorem Tr.uJ:∀t:Tr,t.zA<=t.Kk.length
 | .nil=>ZB _
 | .node l c r=>by
  have h1:=l.uJ;have h2:=r.uJ;simp only[Tr.zA,Tr.Kk,Zd,XD];omega
def Ue(w:World):Value->Tr->Prop
 | v,.nil=>v=.pointer none
 | v,.node l c r=>∃b lv rv,v=.pointer (some ⟨b,0,none⟩)/\w.cell? ⟨b,0,none⟩=some lv/\w.cell? ⟨b,1,none⟩=some rv/\w.cell? ⟨b,2,none⟩=some (.int .i64 c)/\
   w.cell? ⟨b,3,none⟩=some (.int .i64 ((Tr.node l c r).Kk.length:Int))/\w.cell? ⟨b,4,none⟩=some (.int .i64 ((Tr.node l c r).zA:Int))/\Ue w lv l/\Ue w rv r
theorem Ue.keep{w w':World}(hc:∀p v,w.cell? p=some v->w'.cell? p=some v):∀{t:Tr} {v:Value},Ue w v t->Ue w' v t
 | .nil,_,h=>h
 | .node l c r,_,⟨b,lv,rv,h0,h1,h2,h3,h4,h5,h6,h7⟩=>⟨b,lv,rv,h0,hc _ _ h1,hc _ _ h2,hc _ _ h3,hc _ _ h4,hc _ _ h5,h6.keep hc,h7.keep hc⟩
theorem Ue.below{w w':World}{v:Value}{t:Tr}(h:Ue w v t)(hb:Below w.heap.size w w'):Ue w' v t:=h.keep (ZL hb)
theorem Ue.form{w:World}{v:Value}{t:Tr}(h:Ue w v t):∃p,v=.pointer p:=by
 cases t with
 | nil=>exact⟨none,h⟩
 | node l c r=>obtain⟨b,_,_,h0,_⟩:=h;exact⟨_,h0⟩
theorem jQ(v:Value)(t:Tr)(w:World)(h:Ue w v t):
  Calls Tryz.prog 134 #[v] w fun e w'=>e=.returned (.int .i64 (t.Kk.length:Int))/\w=w':=by
 cases t with
 | nil=>
  obtain rfl:v=.pointer none:=h;go_enter Tryz.func134,Tryz.ntmps134
  exact QEd
 | node l c r=>
  obtain⟨b,lv,rv,rfl,h1,h2,h3,h4,h5,-,-⟩:=h;go_enter Tryz.func134,Tryz.ntmps134
  exact QEd
theorem CG(v:Value)(t:Tr)(w:World)(h:Ue w v t):
  Calls Tryz.prog 267 #[v] w fun e w'=>e=.returned (.int .i64 (t.zA:Int))/\w=w':=by
 cases t with
 | nil=>
  obtain rfl:v=.pointer none:=h;go_enter Tryz.func267,Tryz.ntmps267
  exact QEd
 | node l c r=>
  obtain⟨b,lv,rv,rfl,h1,h2,h3,h4,h5,-,-⟩:=h;go_enter Tryz.func267,Tryz.ntmps267
  exact QEd
theorem Em{W w1 w2:World}{a0:Addr}{u0:Value}(h:w1.cell? a0=some u0/\Below W.heap.size W w1)(hb:Below w1.heap.size w1 w2):w2.cell? a0=some u0/\Below W.heap.size W w2:=by
 obtain⟨h0,hW⟩:=h;exact⟨ZL hb _ _ h0,ZE hW hW.size hb⟩
theorem kb1{W w1:World}{P0:Prop}(h:P0/\Below W.heap.size W w1):Below W.heap.size W w1:=h.2
theorem Ints.QKf{w:World}{b o:Nat}{xs:List Int}{k:Nat}(h:Ints w (some ⟨b,o,none⟩) xs)(hk:k<xs.length):w.cell? ⟨b,o+k,none⟩=some (.int .i64 (ix xs k)):=by
 obtain⟨b',o',e,hc⟩:=h.at hk;cases e
 exact hc k hk
theorem bE{xs:List Int}{k:Nat}(h:k<xs.length):xs.take k++ix xs k::xs.drop (k+1)=xs:=by
 rw[Yw h,<-List.drop_eq_getElem_cons h,List.take_append_drop]
theorem vz(p:Option Addr)(t:Tr)(w:World)(h:Ue w (.pointer p) t):
  Calls Tryz.prog 86 #[.agg #[.pointer p]] w fun e w'=>e=.returned (.int .i64 (t.Kk.length:Int))/\Below w.heap.size w w':=by
 have hb:=ZT w (.cells #[.pointer p] 104);have HS:=Zy (jQ _ _ _ (h.below hb));clear h;go_enter Tryz.func86,Tryz.ntmps86
 go_wp2_with fail
 refine HS.out.mono ?_;rintro e w1 ⟨rfl,rfl⟩;go_wp2;go_ret;exact⟨rfl,hb⟩
theorem Ig{w:World}{B3 B4:Nat}{cs ds:Array Value}(h:Za w B3 cs 26)(h':Za w B4 ds 207):B3≠B4:=by
 rintro rfl;unfold Za at h h';rw[h]at h';simp at h'
theorem oH{w:World}{B3 B4:Nat}{cs ds:Array Value}(h:Za w B3 cs 104)(h':Za w B4 ds 207):B3≠B4:=by
 rintro rfl;unfold Za at h h';rw[h]at h';simp at h'
structure WJ (base0 base:Nat) (w:World) (B3 B4:Nat) (sv:Value) (s:List Int):Prop where
 b3:Za w B3 #[sv] 26
 b4:Za w B4 #[(.func (.func 128) #[] #[.pointer (some ⟨B4,0,none⟩),.pointer (some ⟨B3,0,none⟩)])] 207
 own:Own 3 base w sv s
 l3:base0<=B3
 l4:base0<=B4
 lb:base0<=base
 sz:base<=w.heap.size
theorem WJ.drew{base0 base:Nat}{w:World}{B3 B4:Nat}{sv:Value}{s:List Int}(h:WJ base0 base w B3 B4 sv s):WJ base0 base w.drew B3 B4 sv s:=
 ⟨h.b3.drew,h.b4.drew,h.own.drew,h.l3,h.l4,h.lb,show base<=w.drew.heap.size from h.sz⟩
theorem RJ(w0:World)(base B3 B4:Nat):∀(t:Tr) (p:Option Addr) (s:List Int) (sv:Value) (w:World),Ue w0 (.pointer p) t->Below w0.heap.size w0 w->WJ w0.heap.size base w B3 B4 sv s->s.length+t.Kk.length<=20000->
  Calls Tryz.prog 128 #[.pointer p,.pointer (some ⟨B4,0,none⟩),.pointer (some ⟨B3,0,none⟩)] w fun e w'=>e=.returned (.tuple #[])/\(∃sv',WJ w0.heap.size base w' B3 B4 sv' (s++t.Kk))/\Below w0.heap.size w0 w':=by
 intro t;induction t with
 | nil=>
  intro p s sv w h hb hW hsz;simp only[Ue,Value.pointer.injEq]at h;subst h;have HW:=Zy hW;clear hW;go_enter Tryz.func128,Tryz.ntmps128
  go_wp2
  go_end0
  exact⟨rfl,⟨sv,by simpa[Tr.Kk]using HW.out⟩,hb⟩
 | node l c r ihl ihr=>
  intro p s sv w h hb hW hsz;obtain⟨b,lv,rv,hv,l1,l2,l3,-,-,hl,hr⟩:=h;obtain⟨lp,rfl⟩:=hl.form;obtain⟨rp,rfl⟩:=hr.form;simp only[Value.pointer.injEq]at hv;subst hv;have hlen:(Tr.node l c r).Kk.length=l.Kk.length+1+r.Kk.length:=by simp only[Tr.Kk,Zd,XD];omega
  rw[hlen]at hsz;have HIL:=Zy ihl;have HIR:=Zy ihr;have HL:=Zy hl;have HR:=Zy hr;have HW:=Zy hW;have Qqs:=Zy (show(Tr.node l c r).Kk=l.Kk++c::r.Kk from rfl);have g1:=ZL hb _ _ l1;have q4:=hW.b4.cell 0;simp only[List.getElem?_toArray,List.getElem?_cons_zero]at q4;clear ihl ihr hl hr hW hlen;go_enter Tryz.func128,Tryz.ntmps128
  go_upto_region 1 with fail
  go_cut [6] (fun v wx=>(∃sv',WJ w0.heap.size base wx B3 B4 sv' (s++l.Kk))/\Below w0.heap.size w0 wx)
  case first=>
   go_region_law (first|(go_simp;go_at_call 128;((with_reducible refine(HIL.out lp s sv _ HL.out hb.drew HW.out.drew QQ).mono ?_);rintro e w4 ⟨rfl,hW4,hb4⟩)))
   all_goals
    go_wp2;go_meet;exact⟨hW4,hb4⟩
  case rest=>
   obtain⟨⟨sv4,hW4⟩,hb4⟩:=hcut;obtain⟨W4,hWe⟩:∃W4,W4=wc:=⟨_,rfl⟩;subst hWe;obtain⟨sa,sn,sc,rfl⟩:=hW4.own.form;have Dj:=Zy hW4;have g3:=ZL hb4 _ _ l3;obtain⟨d3,f3⟩:=hW4.b3.one;have d3a:=(hW4.b3.alloc (.cells #[.int .i64 c] 3)).one.1;have g3a:=ZL (ZT W4 (.cells #[.int .i64 c] 3)) _ _ g3;have QJN:(s++l.Kk).length+1+r.Kk.length<=20000:=by rw[Zd];omega
   obtain⟨s4,hs4⟩:∃s4,s++l.Kk=s4:=⟨_,rfl⟩;rw[hs4]at QJN hW4 Dj;have HS4:=Zy hs4;clear q4 g1 hs4;go_upto_region 2 with fail
   go_cut [12] (fun v wx=>(∃sv',WJ w0.heap.size base wx B3 B4 sv' (s4++[c]))/\Below w0.heap.size w0 wx)
   case first=>
    go_region_law (refine Pk QAQ _ _ rfl base (.slice sa sn sc) s4 c _ rfl rfl ((Dj.out.own.drew).alloc _) (Ao W4.drew (.int .i64 c) 3 rfl) QQ (XG (show base<=W4.drew.heap.size from Dj.out.sz) _) ?_;intro v9 w9 o9 Xe;obtain⟨a9,n9,c9,rfl⟩:=o9.form;have nN:=((Dj.out.b3.drew).alloc _).grown Xe (Dj.out.own.Xa Dj.out.b3 QZ);have QKE:=((Dj.out.b4.drew).alloc _).grown Xe (Dj.out.own.Xa Dj.out.b4 QZ);obtain⟨p3,q3⟩:=nN.one)
    all_goals
     have Jv:=(hb4.drew.alloc (show w0.heap.size<=W4.drew.heap.size from hb4.size) (.cells #[.int .i64 c] 3)).grown Xe (XG (show w0.heap.size<=W4.drew.heap.size from hb4.size) _) (fun q hq=>Zh Dj.out.lb (Dj.out.own.row q hq));have dQ:B3≠B4:=Ig Dj.out.b3 Dj.out.b4;have hfin:WJ w0.heap.size base (w9.setCell ⟨B3,0,none⟩ (.slice a9 n9 c9)) B3 B4 (.slice a9 n9 c9) (s4++[c]):=
      ⟨by simpa using nN.set 0 (.slice a9 n9 c9),QKE.other (a:=⟨B3,0,none⟩) (Ne.symm dQ) _,o9.other (a:=⟨B3,0,none⟩) (o9.Xa nN QZ) _,Dj.out.l3,Dj.out.l4,Dj.out.lb,by rw[size_setCell];exact Zh (XG (show base<=W4.drew.heap.size from Dj.out.sz) _) Xe.size⟩
     have HF:=Zy hfin;have HB:=Zy (Jv.setCell (p:=⟨B3,0,none⟩) Dj.out.l3 (.slice a9 n9 c9));clear Jv hfin nN QKE o9 Xe;go_wp2;go_meet;exact⟨⟨_,HF.out⟩,HB.out⟩
   case rest=>
    obtain⟨⟨sv5,nW⟩,hb5⟩:=hcut;obtain⟨W5,hWe⟩:∃W5,W5=wc:=⟨_,rfl⟩;subst hWe;have HW5:=Zy nW;have g2:=ZL hb5 _ _ l2;have q5:=nW.b4.one.1;clear nW d3 f3 d3a g3a g3;go_upto_region 3 with fail
    go_region_law (first|(go_simp;go_at_call 128;((with_reducible refine(HIR.out rp (s4++[c]) sv5 _ HR.out hb5.drew HW5.out.drew (by rw[Zd,List.length_singleton];omega)).mono ?_);rintro e w6 ⟨rfl,hW6,hb6⟩)))
    all_goals
     have HW6:=Zy hW6;clear hW6;go_wp2
     go_end0
     obtain⟨il,h6⟩:=HW6.out;refine⟨rfl,⟨il,?_⟩,hb6⟩;rw[Qqs.out,show s++(l.Kk++c::r.Kk)=s4++[c]++r.Kk from by rw[<-HS4.out];simp];exact h6
theorem PS(p:Option Addr)(t:Tr)(w:World)(h:Ue w (.pointer p) t)(hsz:t.Kk.length<=10000):
  Calls Tryz.prog 79 #[.agg #[.pointer p]] w (zu t.Kk w):=by
 have hb1:=ZT w (.cells #[.pointer p] 104);have hB1:=Za.new w #[.pointer p] 104;have HT:=Zy h;have hlen:=vz p t _ (h.below hb1);clear h;go_enter Tryz.func79,Tryz.ntmps79
 go_upto_region 1 with fail
 have hzz:w.heap.size<(w.alloc (.cells #[.pointer p] 104)).heap.size:=QJ;generalize(w.alloc (.cells #[.pointer p] 104))=w1 at *;obtain⟨c0,-⟩:=hB1.one;go_wp2_with fail
 refine hlen.mono ?_;rintro e w2 ⟨rfl,hb2⟩;have hB2:=hB1.below hb2 hB1.lt;have Z4:=ZE hb1 (Xr hzz) hb2;have hz2:w.heap.size<=w2.heap.size:=Z4.size;obtain⟨n,hn⟩:∃n,t.Kk.length=n:=⟨_,rfl⟩;rw[hn]at hsz ⊢;have hmk:∀w:World,(Instr.makeSlice 26 (.int .i64 0) (.int .i64 (n:Int))).run Tryz.prog w=.ok (.slice (some ⟨w.heap.size,0,none⟩) 0 n) (w.alloc (.cells (madeCells #[.int .i64 0] n) 3)):=fun w=>yX 0 n (Z0 _) QQ w
 clear c0 hlen;go_upto_region 3 with fail
 have k3:=(Za.new (w2.alloc (.cells (madeCells #[.int .i64 0] n) 3)) #[.slice (some ⟨w2.heap.size,0,none⟩) 0 n] 26).alloc (.cells #[.nilFunc] 207);have k4:=Za.new ((w2.alloc (.cells (madeCells #[.int .i64 0] n) 3)).alloc (.cells #[.slice (some ⟨w2.heap.size,0,none⟩) 0 n] 26)) #[.nilFunc] 207;rw[Zv]at k3;rw[Zv,Zv]at k4;have ko:=(((ai w2 w.heap.size n hz2 QQ).alloc (.cells #[.slice (some ⟨w2.heap.size,0,none⟩) 0 n] 26)).alloc (.cells #[.nilFunc] 207));have kb:=(xz w2 (.cells (madeCells #[.int .i64 0] n) 3) (.cells #[.slice (some ⟨w2.heap.size,0,none⟩) 0 n] 26) (.cells #[.nilFunc] 207));generalize(((w2.alloc (.cells (madeCells #[.int .i64 0] n) 3)).alloc (.cells #[.slice (some ⟨w2.heap.size,0,none⟩) 0 n] 26)).alloc (.cells #[.nilFunc] 207))=w3 at *;have j4:w.heap.size<=w2.heap.size+1+1:=QQ;have j3:w.heap.size<=w2.heap.size+1:=QQ;generalize w2.heap.size+1+1=B4 at *;generalize w2.heap.size+1=B3 at *;have dQ:B3≠B4:=Ig k3 k4;have hWJ:WJ w.heap.size w.heap.size (w3.setCell ⟨B4,0,none⟩ (.func (.func 128) #[] #[.pointer (some ⟨B4,0,none⟩),.pointer (some ⟨B3,0,none⟩)])) B3 B4 (.slice (some ⟨w2.heap.size,0,none⟩) 0 n) []:=
  ⟨k3.other (a:=⟨B4,0,none⟩) dQ _,by simpa using k4.set 0 (.func (.func 128) #[] #[.pointer (some ⟨B4,0,none⟩),.pointer (some ⟨B3,0,none⟩)]),ko.other (a:=⟨B4,0,none⟩) (ko.Xa k4 QZ) _,j3,j4,ZB _,by rw[size_setCell];exact Zh hz2 kb.size⟩
 have Ji:=(ZE Z4 hz2 kb).setCell (p:=⟨B4,0,none⟩) j4 (.func (.func 128) #[] #[.pointer (some ⟨B4,0,none⟩),.pointer (some ⟨B3,0,none⟩)]);have HWJ:=Zy hWJ;have RP:=(hB2.below kb hB2.lt).other (a:=⟨B4,0,none⟩) (oH (hB2.below kb hB2.lt) k4) (.func (.func 128) #[] #[.pointer (some ⟨B4,0,none⟩),.pointer (some ⟨B3,0,none⟩)]);obtain⟨n0,n1⟩:=k4.one;have hst:∀w':World,(store ⟨B4,0,none⟩ (.func (.func 128) #[] #[.pointer (some ⟨B4,0,none⟩),.pointer (some ⟨B3,0,none⟩)])).run Tryz.prog w'=_:=fun w'=>run_store _ w' _ _ _ rfl
 have n2:=hWJ.b4.one.1;obtain⟨n3,-⟩:=RP.one;clear hWJ hB2 k3 k4 ko kb hb2;go_wp2_with fail
 refine(RJ w w.heap.size B3 B4 t p [] _ _ HT.out Ji HWJ.out QY).mono ?_;rintro e w5 ⟨rfl,⟨sv5,nW⟩,hb5⟩;obtain⟨m0,-⟩:=nW.b3.one;have HO:=Zy nW.own;clear nW;go_wp2;go_ret;exact⟨_,rfl,by simpa using HO.out,hb5⟩
end Go.Proofs.YtmdcencmiopmmaaGreat
