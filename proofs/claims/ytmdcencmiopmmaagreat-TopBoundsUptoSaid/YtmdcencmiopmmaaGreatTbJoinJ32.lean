/- LiftTopBounds: joined, no condition of its own. -/
import Derived.Test.YtmdcencmiopmmaaGreatTbJoinT
import Derived.Test.YtmdcencmiopmmaaGreatTbJoinJ1
import Derived.Test.YtmdcencmiopmmaaGreatTbJoinJ2
import Derived.Test.YtmdcencmiopmmaaGreatTbJoinJ20
import Derived.Test.YtmdcencmiopmmaaGreatTbJoinJ28
set_option linter.unusedVariables false
set_option linter.unusedSimpArgs false
set_option maxRecDepth 100000
set_option maxHeartbeats 12000000
namespace Go.Proofs.YtmdcencmiopmmaaGreat
open Go.RowKit
structure V2 where
 a:Value
 b:Value
def V2.cells(s:V2):List Value:=[s.a,s.b]
def WO(es:List V2)(i:Nat):V2:=es.getD i ⟨undef,undef⟩
theorem zy{es:List V2}{i:Nat}(h:i<es.length):WO es i=es[i]:=by simp[WO,h]
theorem jY{es us:List V2}{i:Nat}(h:i<es.length):WO (es++us) i=WO es i:=by unfold WO;simp[ZP h]
theorem zx{es us:List V2}{i:Nat}:WO (es++us) (es.length+i)=WO us i:=by unfold WO;simp[Q6]
theorem Dt{es:List V2}{k i:Nat}:WO (es.drop k) i=WO es (k+i):=by unfold WO;simp
theorem Dr{es:List V2}{k i:Nat}(h:i<k):WO (es.take k) i=WO es i:=by unfold WO;simp[List.getElem?_take,h]
def V2.ok(s:V2):Prop:=s.a.oneCell'=true/\s.b.oneCell'=true
def ZB(T:TypeId)(base:Nat)(w:World)(v:Value)(es:List V2):Prop:=w.ownsRow base T 2 v es.length (es.flatMap V2.cells)
def Zb(w:World)(a:Option Addr)(es:List V2):Prop:=
 es=[]\/∃b o,a=some ⟨b,o,none⟩/\∀i,i<es.length->w.cell? ⟨b,o+i*2,none⟩=some (WO es i).a/\w.cell? ⟨b,o+(i*2+1),none⟩=some (WO es i).b
theorem Zb.nil(w:World)(a:Option Addr):Zb w a []:=.inl rfl
theorem Zb.at{w:World}{a:Option Addr}{es:List V2}(h:Zb w a es){k:Nat}(hk:k<es.length):
  ∃b o,a=some ⟨b,o,none⟩/\∀i,i<es.length->w.cell? ⟨b,o+i*2,none⟩=some (WO es i).a/\w.cell? ⟨b,o+(i*2+1),none⟩=some (WO es i).b:=by
 exact QAG
theorem Zb.keep{w w':World}{a:Option Addr}{es:List V2}(h:Zb w a es)(hc:∀p v,w.cell? p=some v->w'.cell? p=some v):Zb w' a es:=by
 rcases h with h|⟨b,o,ha,h⟩
 ·exact .inl h
 ·exact .inr ⟨b,o,ha,fun i hi=>⟨hc _ _ (h i hi).1,hc _ _ (h i hi).2⟩⟩
theorem Zb.drop{w:World}{b o:Nat}{es:List V2}(h:Zb w (some ⟨b,o,none⟩) es)(k:Nat):Zb w (some ⟨b,o+k*2,none⟩) (es.drop k):=by
 rcases h with h|⟨b',o',ha,h⟩
 ·subst h;exact .inl (by simp)
 ·simp only[Qv,Xz]at ha
  obtain⟨rfl,rfl,-⟩:=ha;refine .inr ⟨b,o+k*2,rfl,fun i hi=>?_⟩;have hl:k+i<es.length:=by simp at hi;omega
  have:=h (k+i) hl;rw[Dt];rw[show o+k*2+i*2=o+(k+i)*2 from by omega,show o+k*2+(i*2+1)=o+((k+i)*2+1)from by omega];exact this
theorem Zb.take{w:World}{a:Option Addr}{es:List V2}(h:Zb w a es)(k:Nat):Zb w a (es.take k):=by
 rcases h with h|⟨b,o,ha,h⟩
 ·subst h;exact .inl (by simp)
 ·refine .inr ⟨b,o,ha,fun i hi=>?_⟩
  have hl:i<k/\i<es.length:=by simp at hi;omega
  rw[Dr hl.1];exact h i hl.2
def xW(P:Nat->Prop)(w:World)(v:Value)(es:List V2):Prop:=∃a n c,v=.slice a n c/\es.length=n/\n<=c/\c<=9223372036854775807/\Zb w a es/\(a=none->n=0)/\∀ad,a=some ad->0<n->P ad.block
theorem xW.keep{P:Nat->Prop}{w w':World}{v:Value}{es:List V2}(h:xW P w v es)(hc:∀p v,P p.block->w.cell? p=some v->w'.cell? p=some v):xW P w' v es:=by
 obtain⟨a,n,c,h1,h2,h3,h4,h5,h6,h7⟩:=h;refine⟨a,n,c,h1,h2,h3,h4,?_,h6,h7⟩;rcases h5 with h5|⟨b,o,rfl,h5⟩
 ·exact .inl h5
 ·exact .inr ⟨b,o,rfl,fun i hi=>⟨hc _ _ (show P b from h7 ⟨b,o,none⟩ rfl (by omega)) (h5 i hi).1,hc _ _ (show P b from h7 ⟨b,o,none⟩ rfl (by omega)) (h5 i hi).2⟩⟩
theorem xW.imp{P Q:Nat->Prop}{w:World}{v:Value}{es:List V2}(h:xW P w v es)(hi:∀k,P k->Q k):xW Q w v es:=by
 exact QvV
theorem xW.nil(P:Nat->Prop)(w:World):xW P w (.slice none 0 0) []:=⟨none,0,0,rfl,rfl,QU _,by omega,Zb.nil _ _,fun _=>rfl,fun ad e=>by cases e⟩
theorem xW.get{P:Nat->Prop}{w:World}{a:Option Addr}{n c:Nat}{es:List V2}(h:xW P w (.slice a n c) es):es.length=n/\n<=c/\c<=9223372036854775807/\Zb w a es/\(a=none->n=0):=by
 obtain⟨a',n',c',h1,h2,h3,h4,h5,h6,h7⟩:=h;simp only[Qw]at h1;obtain⟨rfl,rfl,rfl⟩:=h1;exact⟨h2,h3,h4,h5,h6⟩
theorem xW.lt{P:Nat->Prop}{w:World}{v:Value}{es:List V2}(h:xW P w v es):xW (fun k=>P k/\k<w.heap.size) w v es:=by
 obtain⟨a,n,c,h1,h2,h3,h4,h5,h6,h7⟩:=h;refine⟨a,n,c,h1,h2,h3,h4,h5,h6,fun ad e p=>⟨h7 ad e p,?_⟩⟩;obtain⟨b,o,hb,hc⟩:=h5.at (k:=0) (by omega);rw[e]at hb;simp only[Qv]at hb;subst hb;exact Zv (hc 0 (by omega)).1
theorem ZB.nil(T:TypeId)(base:Nat)(w:World):ZB T base w (.slice none 0 0) []:=Xv _ _ _ _
theorem ZB.alloc{T:TypeId}{base:Nat}{w:World}{v:Value}{es:List V2}(h:ZB T base w v es)(o:Obj):ZB T base (w.alloc o) v es:=World.ownsRow.alloc h o
theorem ZB.mono{T:TypeId}{base base':Nat}{w:World}{v:Value}{es:List V2}(h:ZB T base w v es)(hb:base'<=base):ZB T base' w v es:=by
 exact Qu1
theorem ZB.moved{T:TypeId}{base:Nat}{w w':World}{v:Value}{es:List V2}(h:ZB T base w v es)(hb:∀k,v.ownBlock=some k->w'.heap[k]? =w.heap[k]?):ZB T base w' v es:=by
 exact QvP
theorem ZB.kept{T:TypeId}{base:Nat}{w w':World}{v:Value}{es:List V2}(h:ZB T base w v es)(hb:Below w.heap.size w w'):ZB T base w' v es:=
 h.moved fun k hk=>hb.block k (ZW h k hk).2
theorem ZB.row{T:TypeId}{base:Nat}{w:World}{v:Value}{es:List V2}(h:ZB T base w v es):∀k,v.ownBlock=some k->base<=k:=fun k hk=>(ZW h k hk).1
theorem ZB.lt{T:TypeId}{base:Nat}{w:World}{v:Value}{es:List V2}(h:ZB T base w v es):∀k,v.ownBlock=some k->k<w.heap.size:=fun k hk=>(ZW h k hk).2
theorem ZB.ZA{T:TypeId}{base:Nat}{w:World}{v:Value}{es:List V2}{e':TypeId}{B:Nat}{cs:Array Value}(h:ZB T base w v es)(hB:QD w B cs e')(he:T≠e'):some B≠v.ownBlock:=by
 exact QuC
theorem ja(us:List V2):∀(i:Nat) (h:i<us.length) (j:Nat),j<2->(us.flatMap V2.cells)[i*2+j]? =(us[i].cells)[j]?:=by
 induction us with
 | nil=>intro i h;simp at h
 | cons u r ih=>
  intro i h j hj
  match i with
  | 0=>
   simp only[List.flatMap_cons,Nat.zero_mul,Zu,List.getElem_cons_zero];rw[ZP (by simp[V2.cells];omega)]
  | i+1=>
   simp only[List.flatMap_cons,List.getElem_cons_succ];rw[Q6 (by simp[V2.cells];omega)];rw[show(i+1)*2+j-u.cells.length=i*2+j from by simp[V2.cells];omega];exact ih i (by simpa using h) j hj
theorem ZB.lC{T:TypeId}{base:Nat}{w:World}{v:Value}{es:List V2}(h:ZB T base w v es):xW (fun k=>base<=k/\v.ownBlock=some k) w v es:=by
 rcases h.2 with⟨rfl,h0⟩|⟨g,cap,cur,rfl,hb',hgg,hn,hm,hs,ht⟩
 ·have:es=[]:=QH h0
  subst this;exact xW.nil _ _
 ·refine⟨_,_,cap,rfl,rfl,hn,by unfold maxLen at hm;omega,.inr ⟨g,0,rfl,fun i hi=>?_⟩,by simp,fun ad e _=>?_⟩
  ·have hc:=h.cells (g:=g) rfl
   have hadd:∀k,(⟨g,0,none⟩:Addr).add k=⟨g,0+k,none⟩:=fun k=>by unfold Addr.add;split<;>simp_all
   have h0:=hc (i*2+0) (WO es i).a (by rw[ja es i hi 0 (by omega),zy hi];rfl);have h1:=hc (i*2+1) (WO es i).b (by rw[ja es i hi 1 (by omega),zy hi];rfl);rw[hadd]at h0 h1;exact⟨h0,h1⟩
  ·simp only[Qv]at e
   subst e;exact⟨hb',rfl⟩
theorem ZB.form{T:TypeId}{base:Nat}{w:World}{v:Value}{es:List V2}(h:ZB T base w v es):∃a n c,v=.slice a n c:=by
 obtain⟨a,n,c,h1,_⟩:=h.lC;exact⟨a,n,c,h1⟩
theorem WU:∀us:List V2,(us.flatMap V2.cells).length=us.length*2
 | []=>rfl
 | u::r=>by rw[List.flatMap_cons,QE,WU r,ZK,Nat.succ_mul];simp[V2.cells,Nat.add_comm]
theorem AU{w:World}{ad:Addr}{us:List V2}(h:Zb w (some ad) us):∀j u,(us.flatMap V2.cells)[j]? =some u->w.cell? (ad.add j)=some u:=by
 intro j u hj;have hl:=WU us;have hjl:j<us.length*2:=by rw[<-hl];exact(List.getElem?_eq_some_iff.1 hj).1
 obtain⟨b,o,ha,hc⟩:=h.at (k:=j / 2) (by omega);simp only[Qv]at ha;subst ha;have hadd:∀k,(⟨b,o,none⟩:Addr).add k=⟨b,o+k,none⟩:=fun k=>by unfold Addr.add;split<;>simp_all
 have hc2:=hc (j / 2) (by omega);have e:j=j / 2*2+j % 2:=by omega
 rw[e,ja us (j / 2) (by omega) (j % 2) (by omega),<-zy]at hj;rw[hadd,e];rcases(show j % 2=0\/j % 2=1 by omega)with h2|h2
 ·rw[h2]at hj ⊢
  simp[V2.cells]at hj;rw[<-hj];exact hc2.1
 ·rw[h2]at hj ⊢
  simp[V2.cells]at hj;rw[<-hj];exact hc2.2
theorem LU{T ST:TypeId}{z:Value}{bytes:Nat}(hu:Tryz.prog.underlying ST=some (.slice T))(hinfo:(Tryz.prog.info? T).map (fun i=>(i.zero,i.size,i.bytes))=some (some z,2,bytes))(hz:z.cells.size=2)(hby:bytes<=32)
  {o:Oper} {a:Act} {K:Act->World->Prop} {Q:Exit->Act->World->Prop} {w:World} (s x:Operand)
  (ho:o.op=.call {callee:=.builtin .append,args:=#[s,x],argTypes:=#[ST,ST]})
  (base:Nat) (v:Value) (es us:List V2) (ad:Addr) (m c:Nat) (hs:a.eval s=v) (hx:a.eval x=.slice (some ad) m c)
  (hown:ZB T base w v es) (hy:Zb w (some ad) us) (hok:∀u∈us,V2.ok u) (hm:us.length=m) (hl:es.length+m<=4398046511104) (hbase:base<=w.heap.size)
  (h0:0<m) (h:∀v' w',ZB T base w' v' (es++us)->w.grownBy w' v.ownBlock->(v'.ownBlock=v.ownBlock\/v'.ownBlock=some w.heap.size)->K (a.put o.dst v') w'):
  o.wp Tryz.prog a w K Q:=by
 obtain⟨i0,hi,hz0,hz1,hz2⟩:=ZF hinfo;refine wp_append_lies w s x ST ho base T i0 z 2 bytes hu hi hz0 hz1 hz2 hz (by decide) v es.length _ hs hown ad m c (us.flatMap V2.cells) hx ?_ (AU hy) ?_ h0 ?_ ?_ hbase _ rfl ?_
 ·rw[<-hm];exact WU us
 ·intro u hu
  exact Qve
 ·unfold maxLen;omega
 ·have:(es.length+m)*bytes<=4398046511104*32:=Nat.mul_le_mul hl hby
  omega
 ·intro g cap w' h1 h2 h3 _
  refine h _ w' ?_ h2 (by rcases h3 with h3|rfl;exact .inl h3.symm;exact .inr rfl);unfold ZB;rw[QE,List.flatMap_append,hm];exact h1
theorem oV{T ST:TypeId}{z:Value}{bytes:Nat}(hu:Tryz.prog.underlying ST=some (.slice T))(hinfo:(Tryz.prog.info? T).map (fun i=>(i.zero,i.size,i.bytes))=some (some z,2,bytes))(hz:z.cells.size=2)(hby:bytes<=32)
  {ops:Array Oper} {rest:List Oper} {o:Oper} {a:Act} {Q:Exit->Act->World->Prop} {w:World} (hgd:o.guard=none) (s x:Operand)
  (ho:o.op=.call {callee:=.builtin .append,args:=#[s,x],argTypes:=#[ST,ST]})
  (base:Nat) (v:Value) (es us:List V2) (ad:Addr) (m c:Nat) (hs:a.eval s=v) (hx:a.eval x=.slice (some ad) m c)
  (hown:ZB T base w v es) (hy:Zb w (some ad) us) (hok:∀u∈us,V2.ok u) (hm:us.length=m) (hl:es.length+m<=4398046511104) (hbase:base<=w.heap.size)
  (h0:0<m) (h:∀v' w',ZB T base w' v' (es++us)->w.grownBy w' v.ownBlock->(v'.ownBlock=v.ownBlock\/v'.ownBlock=some w.heap.size)->wpList Tryz.prog ops Q rest (a.put o.dst v') w'):
  wpList Tryz.prog ops Q (o::rest) a w:=
 wpList_plain hgd fun _ hK=>LU hu hinfo hz hby s x ho base v es us ad m c hs hx hown hy hok hm hl hbase h0 fun v' w' h1 h2 h3=>hK _ _ (h v' w' h1 h2 h3)
theorem Mt{T ST:TypeId}{z:Value}{bytes:Nat}(hu:Tryz.prog.underlying ST=some (.slice T))(hinfo:(Tryz.prog.info? T).map (fun i=>(i.zero,i.size,i.bytes))=some (some z,2,bytes))(hz:z.cells.size=2)(hby:bytes<=32)
  {ops:Array Oper} {o:Oper} {a:Act} {K:Act->World->Prop} {Q:Exit->Act->World->Prop} {w:World} {E:Prop} (hw:Region.wanted o (yielded ops a.tmps)=true) (s x:Operand)
  (ho:o.op=.call {callee:=.builtin .append,args:=#[s,x],argTypes:=#[ST,ST]})
  (base:Nat) (v:Value) (es us:List V2) (ad:Addr) (m c:Nat) (hs:a.eval s=v) (hx:a.eval x=.slice (some ad) m c)
  (hown:ZB T base w v es) (hy:Zb w (some ad) us) (hok:∀u∈us,V2.ok u) (hm:us.length=m) (hl:es.length+m<=4398046511104) (hbase:base<=w.heap.size)
  (h0:0<m) (h:∀v' w',ZB T base w' v' (es++us)->w.grownBy w' v.ownBlock->(v'.ownBlock=v.ownBlock\/v'.ownBlock=some w.heap.size)->K (a.put o.dst v') w'):
  if Region.wanted o (yielded ops a.tmps)=true then Oper.wp Tryz.prog o a w K Q else E:=by
 rw[if_pos hw];exact LU hu hinfo hz hby s x ho base v es us ad m c hs hx hown hy hok hm hl hbase h0 h
theorem Rl{T ST:TypeId}{z:Value}{bytes:Nat}(hu:Tryz.prog.underlying ST=some (.slice T))(hinfo:(Tryz.prog.info? T).map (fun i=>(i.zero,i.size,i.bytes))=some (some z,2,bytes))(hz:z.cells.size=2)(hby:bytes<=32)
  {ops:Array Oper} {rest:List Oper} {o:Oper} {a:Act} {Q:Exit->Act->World->Prop} {w:World} (hgd:o.guard=none) (s x:Operand)
  (ho:o.op=.call {callee:=.builtin .append,args:=#[s,x],argTypes:=#[ST,ST]})
  (base:Nat) (v:Value) (es us:List V2) (ad:Addr) (m c:Nat) (hs:a.eval s=v) (hx:a.eval x=.slice (some ad) m c)
  (hown:ZB T base w v es) (hy:Zb w (some ad) us) (hok:∀u∈us,V2.ok u) (hm:us.length=m) (hl:es.length+m<=4398046511104) (hbase:base<=w.heap.size)
  (h:∀v' w',ZB T base w' v' (es++us)->w.grownBy w' v.ownBlock->wpList Tryz.prog ops Q rest (a.put o.dst v') w'):
  wpList Tryz.prog ops Q (o::rest) a w:=by
 refine wpList_plain hgd fun _ hK=>?_
 obtain⟨i0,hi,hz0,hz1,hz2⟩:=ZF hinfo;refine wp_append_own w s x ST ho base T i0 z 2 bytes hu hi hz0 hz1 hz2 hz (by decide) v es.length _ hs hown ad m c (us.flatMap V2.cells) hx ?_ (AU hy) ?_ ?_ ?_ hbase ?_
 ·rw[<-hm];exact WU us
 ·intro u hu
  exact Qve
 ·unfold maxLen;omega
 ·have:(es.length+m)*bytes<=4398046511104*32:=Nat.mul_le_mul hl hby
  omega
 ·intro v' w' h1 h2 _
  refine hK _ _ (h v' w' ?_ h2);unfold ZB;rw[QE,List.flatMap_append,hm];exact h1
theorem EL{w:World}{B:Nat}{x y:Value}{T:TypeId}(hB:QD w B #[x,y] T):Zb w (some ⟨B,0,none⟩) [⟨x,y⟩]:=by
 obtain⟨e0,e1,-,-⟩:=hB.two;refine .inr ⟨B,0,rfl,fun i hi=>?_⟩;obtain rfl:i=0:=by simpa using hi
 exact⟨e0,e1⟩
inductive Tr where
 | nil:Tr
 | node (l:Tr) (c:Int) (r:Tr):Tr
def Tr.Yt:Tr->List Int
 | .nil=>[]
 | .node l c r=>l.Yt++c::r.Yt
def Tr.Wj:Tr->Nat
 | .nil=>0
 | .node l _ r=>1+max l.Wj r.Wj
theorem Tr.yB:∀t:Tr,t.Wj<=t.Yt.length
 | .nil=>QU _
 | .node l c r=>by
  have h1:=l.yB;have h2:=r.yB;simp only[Tr.Wj,Tr.Yt,QE,ZK];omega
def KX(w:World):Value->Tr->Prop
 | v,.nil=>v=.pointer none
 | v,.node l c r=>∃b lv rv,v=.pointer (some ⟨b,0,none⟩)/\w.cell? ⟨b,0,none⟩=some lv/\w.cell? ⟨b,1,none⟩=some rv/\w.cell? ⟨b,2,none⟩=some (.int .i64 c)/\
   w.cell? ⟨b,3,none⟩=some (.int .i64 ((Tr.node l c r).Yt.length:Int))/\w.cell? ⟨b,4,none⟩=some (.int .i64 ((Tr.node l c r).Wj:Int))/\KX w lv l/\KX w rv r
theorem KX.keep{w w':World}(hc:∀p v,w.cell? p=some v->w'.cell? p=some v):∀{t:Tr} {v:Value},KX w v t->KX w' v t
 | .nil,_,h=>h
 | .node l c r,_,⟨b,lv,rv,h0,h1,h2,h3,h4,h5,h6,h7⟩=>⟨b,lv,rv,h0,hc _ _ h1,hc _ _ h2,hc _ _ h3,hc _ _ h4,hc _ _ h5,h6.keep hc,h7.keep hc⟩
theorem KX.below{w w':World}{v:Value}{t:Tr}(h:KX w v t)(hb:Below w.heap.size w w'):KX w' v t:=h.keep (Qk hb)
theorem KX.form{w:World}{v:Value}{t:Tr}(h:KX w v t):∃p,v=.pointer p:=by
 cases t with
 | nil=>exact⟨none,h⟩
 | node l c r=>obtain⟨b,_,_,h0,_⟩:=h;exact⟨_,h0⟩
theorem zC(v:Value)(t:Tr)(w:World)(h:KX w v t):
  Calls Tryz.prog 134 #[v] w fun e w'=>e=.returned (.int .i64 (t.Yt.length:Int))/\w=w':=by
 cases t with
 | nil=>
  obtain rfl:v=.pointer none:=h;go_enter Tryz.func134,Tryz.ntmps134
  exact QvI
 | node l c r=>
  obtain⟨b,lv,rv,rfl,h1,h2,h3,h4,h5,-,-⟩:=h;go_enter Tryz.func134,Tryz.ntmps134
  exact QvI
theorem AQ(v:Value)(t:Tr)(w:World)(h:KX w v t):
  Calls Tryz.prog 267 #[v] w fun e w'=>e=.returned (.int .i64 (t.Wj:Int))/\w=w':=by
 cases t with
 | nil=>
  obtain rfl:v=.pointer none:=h;go_enter Tryz.func267,Tryz.ntmps267
  exact QvI
 | node l c r=>
  obtain⟨b,lv,rv,rfl,h1,h2,h3,h4,h5,-,-⟩:=h;go_enter Tryz.func267,Tryz.ntmps267
  exact QvI
theorem CB{W w1 w2:World}{a0:Addr}{u0:Value}(h:w1.cell? a0=some u0/\Below W.heap.size W w1)(hb:Below w1.heap.size w1 w2):w2.cell? a0=some u0/\Below W.heap.size W w2:=by
 obtain⟨h0,hW⟩:=h;exact⟨Qk hb _ _ h0,QW hW hW.size hb⟩
theorem kb1{W w1:World}{P0:Prop}(h:P0/\Below W.heap.size W w1):Below W.heap.size W w1:=h.2
theorem Ints.QYQ{w:World}{b o:Nat}{xs:List Int}{k:Nat}(h:Ints w (some ⟨b,o,none⟩) xs)(hk:k<xs.length):w.cell? ⟨b,o+k,none⟩=some (.int .i64 (ix xs k)):=by
 obtain⟨b',o',e,hc⟩:=h.at hk;cases e
 exact hc k hk
theorem Sq{xs:List Int}{k:Nat}(h:k<xs.length):xs.take k++ix xs k::xs.drop (k+1)=xs:=by
 rw[Xt h,<-List.drop_eq_getElem_cons h,List.take_append_drop]
theorem jN(p:Option Addr)(t:Tr)(w:World)(h:KX w (.pointer p) t):
  Calls Tryz.prog 86 #[.agg #[.pointer p]] w fun e w'=>e=.returned (.int .i64 (t.Yt.length:Int))/\Below w.heap.size w w':=by
 have hb:=QC w (.cells #[.pointer p] 104);have HS:=QQ (zC _ _ _ (h.below hb));clear h;go_enter Tryz.func86,Tryz.ntmps86
 go_wp2_with fail
 refine HS.out.mono ?_;rintro e w1 ⟨rfl,rfl⟩;go_wp2;go_ret;exact⟨rfl,hb⟩
theorem Fy{w:World}{B3 B4:Nat}{cs ds:Array Value}(h:QD w B3 cs 26)(h':QD w B4 ds 207):B3≠B4:=by
 rintro rfl;unfold QD at h h';rw[h]at h';simp at h'
theorem gF{w:World}{B3 B4:Nat}{cs ds:Array Value}(h:QD w B3 cs 104)(h':QD w B4 ds 207):B3≠B4:=by
 rintro rfl;unfold QD at h h';rw[h]at h';simp at h'
structure WJ (base0 base:Nat) (w:World) (B3 B4:Nat) (sv:Value) (s:List Int):Prop where
 b3:QD w B3 #[sv] 26
 b4:QD w B4 #[(.func (.func 128) #[] #[.pointer (some ⟨B4,0,none⟩),.pointer (some ⟨B3,0,none⟩)])] 207
 own:Own 3 base w sv s
 l3:base0<=B3
 l4:base0<=B4
 lb:base0<=base
 sz:base<=w.heap.size
theorem WJ.drew{base0 base:Nat}{w:World}{B3 B4:Nat}{sv:Value}{s:List Int}(h:WJ base0 base w B3 B4 sv s):WJ base0 base w.drew B3 B4 sv s:=
 ⟨h.b3.drew,h.b4.drew,h.own.drew,h.l3,h.l4,h.lb,show base<=w.drew.heap.size from h.sz⟩
theorem NS(w0:World)(base B3 B4:Nat):∀(t:Tr) (p:Option Addr) (s:List Int) (sv:Value) (w:World),KX w0 (.pointer p) t->Below w0.heap.size w0 w->WJ w0.heap.size base w B3 B4 sv s->s.length+t.Yt.length<=20000->
  Calls Tryz.prog 128 #[.pointer p,.pointer (some ⟨B4,0,none⟩),.pointer (some ⟨B3,0,none⟩)] w fun e w'=>e=.returned (.tuple #[])/\(∃sv',WJ w0.heap.size base w' B3 B4 sv' (s++t.Yt))/\Below w0.heap.size w0 w':=by
 intro t;induction t with
 | nil=>
  intro p s sv w h hb hW hsz;simp only[KX,Value.pointer.injEq]at h;subst h;have HW:=QQ hW;clear hW;go_enter Tryz.func128,Tryz.ntmps128
  go_wp2
  go_end0
  exact⟨rfl,⟨sv,by simpa[Tr.Yt]using HW.out⟩,hb⟩
 | node l c r ihl ihr=>
  intro p s sv w h hb hW hsz;obtain⟨b,lv,rv,hv,l1,l2,l3,-,-,hl,hr⟩:=h;obtain⟨lp,rfl⟩:=hl.form;obtain⟨rp,rfl⟩:=hr.form;simp only[Value.pointer.injEq]at hv;subst hv;have hlen:(Tr.node l c r).Yt.length=l.Yt.length+1+r.Yt.length:=by simp only[Tr.Yt,QE,ZK];omega
  rw[hlen]at hsz;have HIL:=QQ ihl;have HIR:=QQ ihr;have HL:=QQ hl;have HR:=QQ hr;have HW:=QQ hW;have QVQ:=QQ (show(Tr.node l c r).Yt=l.Yt++c::r.Yt from rfl);have g1:=Qk hb _ _ l1;have q4:=hW.b4.cell 0;simp only[List.getElem?_toArray,List.getElem?_cons_zero]at q4;clear ihl ihr hl hr hW hlen;go_enter Tryz.func128,Tryz.ntmps128
  go_upto_region 1 with fail
  go_cut [6] (fun v wx=>(∃sv',WJ w0.heap.size base wx B3 B4 sv' (s++l.Yt))/\Below w0.heap.size w0 wx)
  case first=>
   go_region_law (first|(go_simp;go_at_call 128;((with_reducible refine(HIL.out lp s sv _ HL.out hb.drew HW.out.drew (by omega)).mono ?_);rintro e w4 ⟨rfl,rF,hb4⟩)))
   all_goals
    go_wp2;go_meet;exact⟨rF,hb4⟩
  case rest=>
   obtain⟨⟨sv4,rF⟩,hb4⟩:=hcut;obtain⟨W4,rE⟩:∃W4,W4=wc:=⟨_,rfl⟩;subst rE;obtain⟨sa,sn,sc,rfl⟩:=rF.own.form;have Al:=QQ rF;have g3:=Qk hb4 _ _ l3;obtain⟨d3,f3⟩:=rF.b3.one;have d3a:=(rF.b3.alloc (.cells #[.int .i64 c] 3)).one.1;have g3a:=Qk (QC W4 (.cells #[.int .i64 c] 3)) _ _ g3;have QZ5:(s++l.Yt).length+1+r.Yt.length<=20000:=by rw[QE];omega
   obtain⟨s4,hs4⟩:∃s4,s++l.Yt=s4:=⟨_,rfl⟩;rw[hs4]at QZ5 rF Al;have HS4:=QQ hs4;clear q4 g1 hs4;go_upto_region 2 with fail
   go_cut [12] (fun v wx=>(∃sv',WJ w0.heap.size base wx B3 B4 sv' (s4++[c]))/\Below w0.heap.size w0 wx)
   case first=>
    go_region_law (refine M3 (by rfl) _ _ rfl base (.slice sa sn sc) s4 c _ rfl rfl ((Al.out.own.drew).alloc _) (uY W4.drew (.int .i64 c) 3 rfl) (by omega) (ZV (show base<=W4.drew.heap.size from Al.out.sz) _) ?_;intro v9 w9 o9 ZE;obtain⟨a9,n9,c9,rfl⟩:=o9.form;have fP:=((Al.out.b3.drew).alloc _).grown ZE (Al.out.own.ZA Al.out.b3 (by decide));have QXm:=((Al.out.b4.drew).alloc _).grown ZE (Al.out.own.ZA Al.out.b4 (by decide));obtain⟨p3,q3⟩:=fP.one)
    all_goals
     have YN:=(hb4.drew.alloc (show w0.heap.size<=W4.drew.heap.size from hb4.size) (.cells #[.int .i64 c] 3)).grown ZE (ZV (show w0.heap.size<=W4.drew.heap.size from hb4.size) _) (fun q hq=>QL Al.out.lb (Al.out.own.row q hq));have Sg:B3≠B4:=Fy Al.out.b3 Al.out.b4;have hfin:WJ w0.heap.size base (w9.setCell ⟨B3,0,none⟩ (.slice a9 n9 c9)) B3 B4 (.slice a9 n9 c9) (s4++[c]):=
      ⟨by simpa using fP.set 0 (.slice a9 n9 c9),QXm.other (a:=⟨B3,0,none⟩) (Ne.symm Sg) _,o9.other (a:=⟨B3,0,none⟩) (o9.ZA fP (by decide)) _,Al.out.l3,Al.out.l4,Al.out.lb,by rw[size_setCell];exact QL (ZV (show base<=W4.drew.heap.size from Al.out.sz) _) ZE.size⟩
     have HF:=QQ hfin;have HB:=QQ (YN.setCell (p:=⟨B3,0,none⟩) Al.out.l3 (.slice a9 n9 c9));clear YN hfin fP QXm o9 ZE;go_wp2;go_meet;exact⟨⟨_,HF.out⟩,HB.out⟩
   case rest=>
    obtain⟨⟨sv5,fq⟩,hb5⟩:=hcut;obtain⟨W5,rE⟩:∃W5,W5=wc:=⟨_,rfl⟩;subst rE;have HW5:=QQ fq;have g2:=Qk hb5 _ _ l2;have q5:=fq.b4.one.1;clear fq d3 f3 d3a g3a g3;go_upto_region 3 with fail
    go_region_law (first|(go_simp;go_at_call 128;((with_reducible refine(HIR.out rp (s4++[c]) sv5 _ HR.out hb5.drew HW5.out.drew (by rw[QE,List.length_singleton];omega)).mono ?_);rintro e w6 ⟨rfl,hW6,hb6⟩)))
    all_goals
     have HW6:=QQ hW6;clear hW6;go_wp2
     go_end0
     obtain⟨cB,h6⟩:=HW6.out;refine⟨rfl,⟨cB,?_⟩,hb6⟩;rw[QVQ.out,show s++(l.Yt++c::r.Yt)=s4++[c]++r.Yt from by rw[<-HS4.out];simp];exact h6
theorem NU(p:Option Addr)(t:Tr)(w:World)(h:KX w (.pointer p) t)(hsz:t.Yt.length<=10000):
  Calls Tryz.prog 79 #[.agg #[.pointer p]] w (Wy t.Yt w):=by
 have hb1:=QC w (.cells #[.pointer p] 104);have hB1:=QD.new w #[.pointer p] 104;have HT:=QQ h;have hlen:=jN p t _ (h.below hb1);clear h;go_enter Tryz.func79,Tryz.ntmps79
 go_upto_region 1 with fail
 have hzz:w.heap.size<(w.alloc (.cells #[.pointer p] 104)).heap.size:=by simp
 generalize(w.alloc (.cells #[.pointer p] 104))=w1 at *;obtain⟨c0,-⟩:=hB1.one;go_wp2_with fail
 refine hlen.mono ?_;rintro e w2 ⟨rfl,hb2⟩;have hB2:=hB1.below hb2 hB1.lt;have Qc:=QW hb1 (ZR hzz) hb2;have hz2:w.heap.size<=w2.heap.size:=Qc.size;obtain⟨n,hn⟩:∃n,t.Yt.length=n:=⟨_,rfl⟩;rw[hn]at hsz ⊢;have hmk:∀w:World,(Instr.makeSlice 26 (.int .i64 0) (.int .i64 (n:Int))).run Tryz.prog w=.ok (.slice (some ⟨w.heap.size,0,none⟩) 0 n) (w.alloc (.cells (madeCells #[.int .i64 0] n) 3)):=fun w=>qP 0 n (Qe _) (by omega) w
 clear c0 hlen;go_upto_region 3 with fail
 have k3:=(QD.new (w2.alloc (.cells (madeCells #[.int .i64 0] n) 3)) #[.slice (some ⟨w2.heap.size,0,none⟩) 0 n] 26).alloc (.cells #[.nilFunc] 207);have k4:=QD.new ((w2.alloc (.cells (madeCells #[.int .i64 0] n) 3)).alloc (.cells #[.slice (some ⟨w2.heap.size,0,none⟩) 0 n] 26)) #[.nilFunc] 207;rw[QJ]at k3;rw[QJ,QJ]at k4;have ko:=(((Rm w2 w.heap.size n hz2 (by omega)).alloc (.cells #[.slice (some ⟨w2.heap.size,0,none⟩) 0 n] 26)).alloc (.cells #[.nilFunc] 207));have kb:=(qQ w2 (.cells (madeCells #[.int .i64 0] n) 3) (.cells #[.slice (some ⟨w2.heap.size,0,none⟩) 0 n] 26) (.cells #[.nilFunc] 207));generalize(((w2.alloc (.cells (madeCells #[.int .i64 0] n) 3)).alloc (.cells #[.slice (some ⟨w2.heap.size,0,none⟩) 0 n] 26)).alloc (.cells #[.nilFunc] 207))=w3 at *;have j4:w.heap.size<=w2.heap.size+1+1:=by omega
 have j3:w.heap.size<=w2.heap.size+1:=by omega
 generalize w2.heap.size+1+1=B4 at *;generalize w2.heap.size+1=B3 at *;have Sg:B3≠B4:=Fy k3 k4;have hWJ:WJ w.heap.size w.heap.size (w3.setCell ⟨B4,0,none⟩ (.func (.func 128) #[] #[.pointer (some ⟨B4,0,none⟩),.pointer (some ⟨B3,0,none⟩)])) B3 B4 (.slice (some ⟨w2.heap.size,0,none⟩) 0 n) []:=
  ⟨k3.other (a:=⟨B4,0,none⟩) Sg _,by simpa using k4.set 0 (.func (.func 128) #[] #[.pointer (some ⟨B4,0,none⟩),.pointer (some ⟨B3,0,none⟩)]),ko.other (a:=⟨B4,0,none⟩) (ko.ZA k4 (by decide)) _,j3,j4,QU _,by rw[size_setCell];exact QL hz2 kb.size⟩
 have YG:=(QW Qc hz2 kb).setCell (p:=⟨B4,0,none⟩) j4 (.func (.func 128) #[] #[.pointer (some ⟨B4,0,none⟩),.pointer (some ⟨B3,0,none⟩)]);have HWJ:=QQ hWJ;have Nw:=(hB2.below kb hB2.lt).other (a:=⟨B4,0,none⟩) (gF (hB2.below kb hB2.lt) k4) (.func (.func 128) #[] #[.pointer (some ⟨B4,0,none⟩),.pointer (some ⟨B3,0,none⟩)]);obtain⟨n0,n1⟩:=k4.one;have hst:∀w':World,(store ⟨B4,0,none⟩ (.func (.func 128) #[] #[.pointer (some ⟨B4,0,none⟩),.pointer (some ⟨B3,0,none⟩)])).run Tryz.prog w'=_:=fun w'=>run_store _ w' _ _ _ rfl
 have n2:=hWJ.b4.one.1;obtain⟨n3,-⟩:=Nw.one;clear hWJ hB2 k3 k4 ko kb hb2;go_wp2_with fail
 refine(NS w w.heap.size B3 B4 t p [] _ _ HT.out YG HWJ.out (by simp;omega)).mono ?_;rintro e w5 ⟨rfl,⟨sv5,fq⟩,hb5⟩;obtain⟨m0,-⟩:=fq.b3.one;have HO:=QQ fq.own;clear fq;go_wp2;go_ret;exact⟨_,rfl,by simpa using HO.out,hb5⟩
end Go.Proofs.YtmdcencmiopmmaaGreat
