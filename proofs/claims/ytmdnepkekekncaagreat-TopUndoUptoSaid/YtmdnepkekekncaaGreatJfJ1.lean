/- joined, no condition of its own. -/
import Derived.Test.YtmdnepkekekncaaGreatJfT
import Derived.Test.YtmdnepkekekncaaGreatRows
set_option linter.unusedVariables false
set_option linter.unusedSimpArgs false
set_option maxRecDepth 100000
set_option maxHeartbeats 12000000
namespace Go.Proofs.YtmdnepkekekncaaGreat
open Go.RowKit
theorem XE{k:IntKind}{a c:Int}(h:a=c):Ending.returned (.int k a)=.returned (.int k c):=by rw[h]
theorem Xg{a c:Bool}(h:a=c):Ending.returned (.bool a)=.returned (.bool c):=by rw[h]
theorem yH{k l:IntKind}{a b c d:Int}(h:a=c)(h':b=d):Ending.returned (.tuple #[.int k a,.int l b])=.returned (.tuple #[.int k c,.int l d]):=by rw[h,h']
def ix(xs:List Int)(i:Nat):Int:=xs.getD i 0
theorem Ya{xs:List Int}{i:Nat}(h:i<xs.length):ix xs i=xs[i]:=by simp[ix,h]
theorem kU{xs ys:List Int}(hl:xs.length=ys.length)(h:∀i,i<xs.length->ix xs i=ix ys i):xs=ys:=by
 apply List.ext_getElem hl;intro i h1 h2;have:=h i h1
 rwa[Ya h1,Ya h2]at this
theorem Bz{xs:List Int}{i:Nat}(h:i<xs.length):ix xs i∈xs:=by rw[Ya h];exact YQ h
theorem YE{xs ys:List Int}{i:Nat}(h:i<xs.length):ix (xs++ys) i=ix xs i:=by
 rw[Ya h,Ya QY,List.getElem_append_left h]
theorem KP{xs ys:List Int}{i:Nat}:ix (xs++ys) (xs.length+i)=ix ys i:=by
 simp[ix,XV]
def qg(x:Int):Prop:= -9223372036854775808<=x/\x<=9223372036854775807
theorem qg.EJ{x:Int}(h:(Lit.int .i64 x).wf=true):qg x:=by
 simpa[Lit.wf,IntKind.min,IntKind.max,IntKind.signed,IntKind.bits,qg]using h
def Ints(w:World)(a:Option Addr)(xs:List Int):Prop:=
 xs=[]\/∃b o,a=some ⟨b,o,none⟩/\∀i,i<xs.length->w.cell? ⟨b,o+i,none⟩=some (.int .i64 (ix xs i))
theorem Ints.nil(w:World)(a:Option Addr):Ints w a []:=.inl rfl
theorem Ints.at{w:World}{a:Option Addr}{xs:List Int}(h:Ints w a xs){k:Nat}(hk:k<xs.length):
  ∃b o,a=some ⟨b,o,none⟩/\∀i,i<xs.length->w.cell? ⟨b,o+i,none⟩=some (.int .i64 (ix xs i)):=by
 exact QLY
theorem Ints.keep{w w':World}{a:Option Addr}{xs:List Int}(h:Ints w a xs)(hc:∀p v,w.cell? p=some v->w'.cell? p=some v):Ints w' a xs:=by
 exact QI0
theorem Xb{w:World}{p:Addr}{v:Value}(h:w.cell? p=some v):p.block<w.heap.size:=World.block_lt_of_cell? w p h
theorem Zd{w w':World}(h:Below w.heap.size w w'):∀p v,w.cell? p=some v->w'.cell? p=some v:=
 fun p v hp=>by rw[h.cell (Xb hp)];exact hp
theorem Ints.below{w w':World}{a:Option Addr}{xs:List Int}(h:Ints w a xs)(hb:Below w.heap.size w w'):Ints w' a xs:=h.keep (Zd hb)
theorem Ints.drewN{w:World}{a:Option Addr}{xs:List Int}(h:Ints w a xs)(n:Nat):Ints (w.drewN n) a xs:=h.keep (fun _ _ h=>h)
theorem Ints.drew{w:World}{a:Option Addr}{xs:List Int}(h:Ints w a xs):Ints w.drew a xs:=h.keep (fun _ _ h=>h)
theorem Ints.take{w:World}{a:Option Addr}{xs:List Int}(h:Ints w a xs)(k:Nat):Ints w a (xs.take k):=by
 rcases h with h|⟨b,o,ha,h⟩
 ·subst h;exact .inl QJ
 ·refine .inr ⟨b,o,ha,fun i hi=>?_⟩
  have hl:i<xs.length:=QS;rw[h i hl,Ya hl,Ya hi];simp
theorem Ints.drop{w:World}{b o:Nat}{xs:List Int}(h:Ints w (some ⟨b,o,none⟩) xs)(k:Nat):Ints w (some ⟨b,o+k,none⟩) (xs.drop k):=by
 rcases h with h|⟨b',o',ha,h⟩
 ·subst h;exact .inl QJ
 ·simp only[ZL,YR]at ha
  obtain⟨rfl,rfl,-⟩:=ha;refine .inr ⟨b,o+k,rfl,fun i hi=>?_⟩;have hl:k+i<xs.length:=QS;rw[show o+k+i=o+(k+i)from QQ,h _ hl,Ya hl,Ya hi];simp
theorem Ints.QYq{w:World}{x:Addr}{zs:List Int}{n:Nat}(hc:∀i,i<zs.length->w.cell? (x.add i)=some (.int .i64 (zs.getD i 0)))(hn:n<=zs.length):Ints w (some x) (zs.take n):=by
 rcases Xf n with rfl|h0
 ·exact .inl QJ
 ·obtain⟨b,o,sp⟩:=x
  have hspot:sp=none:=by simpa[Addr.add]using World.cell?_spot (hc 0 QQ)
  subst hspot;refine .inr ⟨b,o,rfl,fun i hi=>?_⟩;have hl:i<zs.length:=QS;have hadd:(⟨b,o,none⟩:Addr).add i=⟨b,o+i,none⟩:=QF;rw[<-hadd,hc i hl,Ya hi];simp[hl]
theorem Ints.tQ{w:World}{base:Nat}{e:TypeId}{v:Value}{n:Nat}{xs:List Int}(h:w.ownsRow base e 1 v n (xs.map (Value.int .i64))):
  ∃a c,v=.slice a xs.length c/\xs.length=n/\n<=c/\Ints w a xs:=by
 have hl:xs.length=n:=by have:=h.1;simpa using this
 subst hl;rcases h.2 with⟨rfl,h0⟩|⟨g,cap,cur,rfl,hb,hg,hn,hm,hs,ht⟩
 ·have:xs=[]:=ZM h0
  subst this;exact⟨none,0,rfl,rfl,ZB _,.inl rfl⟩
 ·refine⟨some ⟨g,0,none⟩,cap,rfl,rfl,hn,.inr ⟨g,0,rfl,fun i hi=>?_⟩⟩
  have:=h.cells (g:=g) rfl i (.int .i64 (ix xs i)) (by simp[ix,hi]);have hadd:(⟨g,0,none⟩:Addr).add i=⟨g,0+i,none⟩:=QF
  rwa[hadd]at this
def Za(w:World)(B:Nat)(cs:Array Value)(e:TypeId):Prop:=w.heap[B]? =some (.cells cs e (0,0))
theorem Za.cell{w:World}{B:Nat}{cs:Array Value}{e:TypeId}(h:Za w B cs e)(i:Nat):w.cell? ⟨B,i,none⟩=cs[i]?:=by simp[World.cell?,show w.heap[B]? =_ from h]
theorem Za.free{w:World}{B:Nat}{cs:Array Value}{e:TypeId}(h:Za w B cs e)(i:Nat):w.frozen? ⟨B,i,none⟩=false:=by
 simp[World.frozen?,show w.heap[B]? =_ from h]
theorem Za.lt{w:World}{B:Nat}{cs:Array Value}{e:TypeId}(h:Za w B cs e):B<w.heap.size:=(Array.getElem?_eq_some_iff.1 h).1
theorem ZR(w:World)(o:Obj):Below w.heap.size w (w.alloc o):=(ZH _ _).alloc (ZB _) o
theorem Zo(w:World)(o o':Obj):Below w.heap.size w ((w.alloc o).alloc o'):=(ZR w o).alloc QJ o'
theorem yY(w:World)(o o' o2:Obj):Below w.heap.size w (((w.alloc o).alloc o').alloc o2):=(Zo w o o').alloc QY o2
theorem below_drewN{B:Nat}{a w:World}(h:Below B a w)(n:Nat):Below B a (w.drewN n):=⟨h.os,h.tape,h.output,h.size,h.block⟩
theorem ZE{B:Nat}{a b c:World}(h:Below B a b)(hB:B<=b.heap.size)(k:Below b.heap.size b c):Below B a c:=h.trans (k.mono hB)
theorem Za.one{w:World}{B:Nat}{u0:Value}{e:TypeId}(h:Za w B #[u0] e):w.cell? ⟨B,0,none⟩=some u0/\w.frozen? ⟨B,0,none⟩=false:=⟨h.cell 0,h.free 0⟩
theorem Za.two{w:World}{B:Nat}{u0 u1:Value}{e:TypeId}(h:Za w B #[u0,u1] e):w.cell? ⟨B,0,none⟩=some u0/\w.cell? ⟨B,1,none⟩=some u1/\w.frozen? ⟨B,0,none⟩=false/\w.frozen? ⟨B,1,none⟩=false:=⟨h.cell 0,h.cell 1,h.free 0,h.free 1⟩
theorem Za.three{w:World}{B:Nat}{u0 u1 u2:Value}{e:TypeId}(h:Za w B #[u0,u1,u2] e):w.cell? ⟨B,0,none⟩=some u0/\w.cell? ⟨B,1,none⟩=some u1/\w.cell? ⟨B,2,none⟩=some u2/\w.frozen? ⟨B,0,none⟩=false/\w.frozen? ⟨B,1,none⟩=false/\w.frozen? ⟨B,2,none⟩=false:=⟨h.cell 0,h.cell 1,h.cell 2,h.free 0,h.free 1,h.free 2⟩
theorem Za.alloc{w:World}{B:Nat}{cs:Array Value}{e:TypeId}(h:Za w B cs e)(o:Obj):Za (w.alloc o) B cs e:=by
 unfold Za;rw[Below.heap_alloc _ _ _ h.lt];exact h
theorem Za.new(w:World)(cs:Array Value)(e:TypeId):Za (w.alloc (.cells cs e)) w.heap.size cs e:=heap_alloc_new w _
theorem Za.drewN{w:World}{B:Nat}{cs:Array Value}{e:TypeId}(h:Za w B cs e)(n:Nat):Za (w.drewN n) B cs e:=h
theorem Za.drew{w:World}{B:Nat}{cs:Array Value}{e:TypeId}(h:Za w B cs e):Za w.drew B cs e:=h
theorem Za.other{w:World}{B:Nat}{cs:Array Value}{e:TypeId}(h:Za w B cs e){a:Addr}(ha:B≠a.block)(u:Value):Za (w.setCell a u) B cs e:=by
 unfold Za;rw[Zl _ _ _ _ ha];exact h
theorem Za.set{w:World}{B:Nat}{cs:Array Value}{e:TypeId}(h:Za w B cs e)(i:Nat)(u:Value):Za (w.setCell ⟨B,i,none⟩ u) B (cs.setIfInBounds i u) e:=by
 unfold Za at *;simp[World.setCell,Array.getElem?_modify,h]
theorem Za.grown{w w':World}{B:Nat}{cs:Array Value}{e:TypeId}{row:Option Nat}(h:Za w B cs e)(hg:w.grownBy w' row)(hr:some B≠row):Za w' B cs e:=by
 unfold Za;rw[hg.block B h.lt hr];exact h
theorem Za.below{w w':World}{B N:Nat}{cs:Array Value}{e:TypeId}(h:Za w B cs e)(hb:Below N w w')(hN:B<N):Za w' B cs e:=by
 unfold Za;rw[hb.block B hN];exact h
def Own(e:TypeId)(base:Nat)(w:World)(v:Value)(xs:List Int):Prop:=w.ownsRow base e 1 v xs.length (xs.map (Value.int .i64))
theorem Own.nil(e:TypeId)(base:Nat)(w:World):Own e base w (.slice none 0 0) []:=Yu _ _ _ _
theorem Own.alloc{e:TypeId}{base:Nat}{w:World}{v:Value}{xs:List Int}(h:Own e base w v xs)(o:Obj):Own e base (w.alloc o) v xs:=World.ownsRow.alloc h o
theorem Own.setCell{e:TypeId}{base:Nat}{w:World}{v:Value}{xs:List Int}(h:Own e base w v xs){a:Addr}(ha:a.block<base)(u:Value):Own e base (w.setCell a u) v xs:=ownsRow_setCell_below h ha u
theorem Own.drewN{e:TypeId}{base:Nat}{w:World}{v:Value}{xs:List Int}(h:Own e base w v xs)(n:Nat):Own e base (w.drewN n) v xs:=h
theorem Own.drew{e:TypeId}{base:Nat}{w:World}{v:Value}{xs:List Int}(h:Own e base w v xs):Own e base w.drew v xs:=h
theorem Own.other{e:TypeId}{base:Nat}{w:World}{v:Value}{xs:List Int}(h:Own e base w v xs){a:Addr}(ha:some a.block≠v.ownBlock)(u:Value):Own e base (w.setCell a u) v xs:=by
 exact QID
theorem Own.XP{e e':TypeId}{base:Nat}{w:World}{v:Value}{xs:List Int}{B:Nat}{cs:Array Value}(h:Own e base w v xs)(hB:Za w B cs e')(he:e≠e'):some B≠v.ownBlock:=by
 exact QGd
theorem Own.kept{e:TypeId}{base:Nat}{w w':World}{v:Value}{xs:List Int}(h:Own e base w v xs)(hb:Below w.heap.size w w'):Own e base w' v xs:=by
 exact QHI
theorem Own.mono{e:TypeId}{base base':Nat}{w:World}{v:Value}{xs:List Int}(h:Own e base w v xs)(hb:base'<=base):Own e base' w v xs:=by
 exact QHX
theorem Own.ints{e:TypeId}{base:Nat}{w:World}{v:Value}{xs:List Int}(h:Own e base w v xs):
  ∃a c,v=.slice a xs.length c/\xs.length<=c/\Ints w a xs:=by
 obtain⟨a,c,h1,_,h3,h4⟩:=Ints.tQ h;exact⟨a,c,h1,h3,h4⟩
theorem Own.get{e:TypeId}{base:Nat}{w:World}{a:Option Addr}{n c:Nat}{xs:List Int}(h:Own e base w (.slice a n c) xs):xs.length=n/\Ints w a xs/\n<=c:=by
 obtain⟨a',c',h1,h2,h3⟩:=h.ints;simp only[Xy]at h1;obtain⟨rfl,rfl,rfl⟩:=h1;exact⟨rfl,h3,h2⟩
theorem Own.full{e:TypeId}{base:Nat}{w:World}{v:Value}{xs:List Int}(h:Own e base w v xs)(hne:0<xs.length):
  ∃g k c,v=.slice (some ⟨g,0,none⟩) k c/\k<=xs.length/\xs.length<=k/\k<=c/\c<=9223372036854775807/\base<=g/\g<w.heap.size/\Ints w (some ⟨g,0,none⟩) xs:=by
 have hi:=h.ints;rcases h.2 with⟨rfl,h0⟩|⟨g,cap,cur,rfl,hb,hg,hn,hm,hs,ht⟩
 ·omega
 ·obtain⟨a,c,hv,hc,hints⟩:=hi
  simp only[Xy]at hv;obtain⟨rfl,_,rfl⟩:=hv;exact⟨g,xs.length,cap,rfl,ZB _,ZB _,hn,QC8,hb,(Array.getElem?_eq_some_iff.1 hg).1,hints⟩
theorem Own.form{e:TypeId}{base:Nat}{w:World}{v:Value}{xs:List Int}(h:Own e base w v xs):∃a n c,v=.slice a n c:=by
 obtain⟨a,c,h1,_⟩:=h.ints;exact⟨a,_,c,h1⟩
theorem Own.ne{e:TypeId}{base:Nat}{w:World}{v:Value}{xs:List Int}(h:Own e base w v xs){B:Nat}(hB:B<base):some B≠v.ownBlock:=by
 intro he;have:=XC h B he.symm;omega
theorem Own.row{e:TypeId}{base:Nat}{w:World}{v:Value}{xs:List Int}(h:Own e base w v xs):∀k,v.ownBlock=some k->base<=k:=fun k hk=>(XC h k hk).1
theorem JQ(w:World)(v:Value)(T:TypeId):(w.alloc (.cells #[v] T)).cell? ⟨w.heap.size,0,none⟩=some v:=by
 rw[World.cell?_alloc_at _ _ _ _ rfl];rfl
theorem CQ(w:World)(v:Value)(T:TypeId){n:Nat}(h:n=w.heap.size):(w.alloc (.cells #[v] T)).cell? ⟨n,0,none⟩=some v:=by
 subst h;exact JQ w v T
theorem size_setCell(w:World)(a:Addr)(u:Value):(w.setCell a u).heap.size=w.heap.size:=by simp[World.setCell]
theorem XJ{w:World}{n:Nat}(h:n<=w.heap.size)(o:Obj):n<=(w.alloc o).heap.size:=QDV
theorem drewN_drewN(w:World)(a b:Nat):(w.drewN a).drewN b=w.drewN (a+b):=by
 simp[World.drewN,Nat.add_assoc]
theorem JH:(Tryz.prog.info? 3).map (fun i=>(i.zero,i.size,i.bytes))=some (some (.int .i64 0),1,8):=QX
theorem app1{ops:Array Oper}{rest:List Oper}{o:Oper}{a:Act}{Q:Exit->Act->World->Prop}{w:World}(hgd:o.guard=none)(s x:Operand)
  (ho:o.op=.call {callee:=.builtin .append,args:=#[s,x],argTypes:=#[22,22]})
  (base:Nat) (v:Value) (xs:List Int) (y:Int) (ad:Addr) (hs:a.eval s=v) (hx:a.eval x=.slice (some ad) 1 1)
  (hown:Own 3 base w v xs) (hc:w.cell? ad=some (.int .i64 y)) (hl:xs.length<17592186044416) (hbase:base<=w.heap.size)
  (h:∀v' w',Own 3 base w' v' (xs++[y])->w.grownBy w' v.ownBlock->wpList Tryz.prog ops Q rest (a.put o.dst v') w'):
  wpList Tryz.prog ops Q (o::rest) a w:=by
 obtain⟨i0,hi,hz0,hz1,hz2⟩:=XR JH;refine wpList_append_own w hgd s x 22 ho base 3 i0 (.int .i64 0) 1 8 Tryz.underlying22 hi hz0 hz1 hz2 rfl QZ v xs.length _ hs hown ad 1 1 [.int .i64 y] hx rfl ?_ ?_ ?_ ?_ hbase ?_
 ·intro j u hj
  match j with
  | 0=>simp at hj;subst hj;simpa[Addr.add]using hc
  | j+1=>simp at hj
 ·intro u hu;simp at hu;subst hu;rfl
 ·unfold maxLen;omega
 ·omega
 ·intro v' w' h1 h2 _
  refine h v' w' ?_ h2;unfold Own;simpa using h1
theorem SN{ops:Array Oper}{o:Oper}{a:Act}{K:Act->World->Prop}{Q:Exit->Act->World->Prop}{w:World}{E:Prop}(hw:Region.wanted o (yielded ops a.tmps)=true)(s x:Operand)
  (ho:o.op=.call {callee:=.builtin .append,args:=#[s,x],argTypes:=#[22,22]})
  (base:Nat) (v:Value) (xs:List Int) (y:Int) (ad:Addr) (hs:a.eval s=v) (hx:a.eval x=.slice (some ad) 1 1)
  (hown:Own 3 base w v xs) (hc:w.cell? ad=some (.int .i64 y)) (hl:xs.length<17592186044416) (hbase:base<=w.heap.size)
  (h:∀v' w',Own 3 base w' v' (xs++[y])->w.grownBy w' v.ownBlock->K (a.put o.dst v') w'):
  if Region.wanted o (yielded ops a.tmps)=true then Oper.wp Tryz.prog o a w K Q else E:=by
 rw[if_pos hw];obtain⟨i0,hi,hz0,hz1,hz2⟩:=XR JH;refine wp_append_own w s x 22 ho base 3 i0 (.int .i64 0) 1 8 Tryz.underlying22 hi hz0 hz1 hz2 rfl QZ v xs.length _ hs hown ad 1 1 [.int .i64 y] hx rfl ?_ ?_ ?_ ?_ hbase ?_
 ·intro j u hj
  match j with
  | 0=>simp at hj;subst hj;simpa[Addr.add]using hc
  | j+1=>simp at hj
 ·intro u hu;simp at hu;subst hu;rfl
 ·unfold maxLen;omega
 ·omega
 ·intro v' w' h1 h2 _
  refine h v' w' ?_ h2;unfold Own;simpa using h1
theorem PL{o:Oper}{a:Act}{K:Act->World->Prop}{Q:Exit->Act->World->Prop}{w:World}(s x:Operand)
  (ho:o.op=.call {callee:=.builtin .append,args:=#[s,x],argTypes:=#[22,22]})
  (base:Nat) (v:Value) (xs ys:List Int) (ad:Addr) (m c:Nat) (hs:a.eval s=v) (hx:a.eval x=.slice (some ad) m c)
  (hown:Own 3 base w v xs) (hy:Ints w (some ad) ys) (hm:ys.length=m) (hl:xs.length+m<=17592186044416) (hbase:base<=w.heap.size)
  (h:∀v' w',Own 3 base w' v' (xs++ys)->w.grownBy w' v.ownBlock->(v'=.slice none 0 0↔v=.slice none 0 0/\m=0)->K (a.put o.dst v') w'):
  o.wp Tryz.prog a w K Q:=by
 obtain⟨i0,hi,hz0,hz1,hz2⟩:=XR JH;refine wp_append_own w s x 22 ho base 3 i0 (.int .i64 0) 1 8 Tryz.underlying22 hi hz0 hz1 hz2 rfl QZ v xs.length _ hs hown ad m c (ys.map (Value.int .i64)) hx (by simp[hm]) ?_ ?_ ?_ ?_ hbase ?_
 ·intro j u hj
  exact QHU
 ·intro u hu
  obtain⟨y,_,rfl⟩:=List.mem_map.1 hu;rfl
 ·unfold maxLen;omega
 ·omega
 ·intro v' w' h1 h2 h3
  refine h v' w' ?_ h2 h3;unfold Own;simpa[hm]using h1
theorem kL{ops:Array Oper}{rest:List Oper}{o:Oper}{a:Act}{Q:Exit->Act->World->Prop}{w:World}(hgd:o.guard=none)(s x:Operand)
  (ho:o.op=.call {callee:=.builtin .append,args:=#[s,x],argTypes:=#[22,22]})
  (base:Nat) (v:Value) (xs ys:List Int) (ad:Addr) (m c:Nat) (hs:a.eval s=v) (hx:a.eval x=.slice (some ad) m c)
  (hown:Own 3 base w v xs) (hy:Ints w (some ad) ys) (hm:ys.length=m) (hl:xs.length+m<=17592186044416) (hbase:base<=w.heap.size)
  (h:∀v' w',Own 3 base w' v' (xs++ys)->w.grownBy w' v.ownBlock->(v'=.slice none 0 0↔v=.slice none 0 0/\m=0)->wpList Tryz.prog ops Q rest (a.put o.dst v') w'):
  wpList Tryz.prog ops Q (o::rest) a w:=
 wpList_plain hgd fun _ hK=>PL s x ho base v xs ys ad m c hs hx hown hy hm hl hbase fun v' w' h1 h2 h3=>hK _ _ (h v' w' h1 h2 h3)
theorem Lx(w:World)(base:Nat)(hb:base<=w.heap.size):Own 3 base (w.alloc (.cells #[] 3)) (.slice (some ⟨w.heap.size,0,none⟩) 0 0) []:=
 World.ownsRow_made w #[] 0 hb Qg rfl
def zw(xs:List Int)(w:World)(e:Ending)(w':World):Prop:=∃v,e=.returned v/\Own 3 w.heap.size w' v xs/\Below w.heap.size w w'
theorem XY(a:Option Addr)(n c:Nat)(xs:List Int)(w:World)(ha:Ints w a xs)(hn:xs.length=n)(hl:n<=17592186044416)(h0:a=none->n=0):
  Calls Tryz.prog 31 #[.slice a n c] w (zw xs w):=by
 have he:=fun(w:World) (n' c':Nat)=>Lib.run_eql_slice_nil (P:=Tryz.prog) w 22 3 a n c n' c' Tryz.underlying22
 rcases a with _|ad
 ·obtain rfl:n=0:=h0 rfl
  obtain rfl:xs=[]:=ZM hn;clear hn h0 ha;go_enter Tryz.func31,Tryz.ntmps31
  go_wp2;go_ret;exact⟨_,rfl,Own.nil _ _ _,ZH _ _⟩
 ·have HN:=Zy hn;clear hn h0
  go_enter Tryz.func31,Tryz.ntmps31
  go_wp2_with (at_builtin;refine kL rfl _ _ rfl w.heap.size _ _ xs ad n c rfl rfl (Lx w w.heap.size (ZB _)) (ha.below (ZR _ _)) HN.out (by simpa using hl) QJ ?_;intro v1 w1 hown1 hgrow1 _)
  go_ret;exact⟨v1,rfl,by simpa using hown1,(ZR w _).grown hgrow1 QJ (Lx w w.heap.size (ZB _)).row⟩
theorem Ws(a b:Option Addr)(na nb ca cb:Nat)(xs ys:List Int)(w:World)(ha:Ints w a xs)(hb:Ints w b ys)(hna:xs.length=na)(hnb:ys.length=nb)(hx:na<=9223372036854775807):
  Calls Tryz.prog 12 #[.slice a na ca,.slice b nb cb] w fun e w'=>e=.returned (.bool (decide (xs=ys)))/\∃n,w'=w.drewN n:=by
 subst hna hnb;by_cases hl:xs.length=ys.length
 ·go_enter Tryz.func12,Tryz.ntmps12
  go_wp2;have HL:=Zy hl;have hy:ys.length<=9223372036854775807:=QQ;clear hl hx
  go_loopw [13] (fun i wr=>∃k:Nat,i=.int .i64 k/\k<=ys.length/\(∀j,j<k->ix xs j=ix ys j)/\∃n,wr=w.drewN n) (fun i _=>ys.length-(intOf i).toNat)
  case atStart=>exact⟨0,rfl,Z4 _,fun j hj=>QQ,0,rfl⟩
  case round=>
   obtain⟨k,rfl,hk,heq,n,rfl⟩:=hrel;by_cases hlt:k<ys.length
   ·obtain⟨b1,o1,rfl,hc1⟩:=ha.at (k:=k) QH
    obtain⟨b2,o2,rfl,hc2⟩:=hb.at hlt;have e1:=hc1 k QH;have e2:=hc2 k hlt;have HE:=Zy heq;have i1:(k:Int)<(xs.length:Int):=QEl;have i2:(k:Int)<(ys.length:Int):=QQ;clear hc1 hc2 heq ha hb;go_wp2
    go_quiet (fail)
    go_wp2
    ·go_ret
     have hne:(ix xs k !=ix ys k)=true:=QI;refine⟨Xg ?_,_,drewN_drewN _ _ _⟩;rw[eq_comm,ZG];rintro rfl;simp at hne
    ·have hne:(ix xs k !=ix ys k)=false:=by assumption
     go_roundw
     case rel=>exact⟨k+1,Qy,QQ,fun j hj=>by
      rcases XZ.1 hj with h|rfl
      ·exact HE.out j h
      ·simpa using hne,_,rfl⟩
     case measure=>simp[intOf];omega
   ·go_wp2
    go_ret;refine⟨Xg ?_,n,rfl⟩;rw[eq_comm,Xe];exact kU HL.out fun i hi=>heq i (by rw[HL.out]at hi;omega)
 ·go_enter Tryz.func12,Tryz.ntmps12
  go_wp2;go_ret;refine⟨Xg ?_,0,rfl⟩;simp;intro h;exact hl (by rw[h])
theorem yl(l c:Nat)(h:l<=c)(hc:c<=17592186044416)(w:World):
  (Instr.makeSlice 22 (.int .i64 (l:Int)) (.int .i64 (c:Int))).run Tryz.prog w=.ok (.slice (some ⟨w.heap.size,0,none⟩) l c) (w.alloc (.cells (madeCells #[.int .i64 0] c) 3)):=by
 obtain⟨i0,hi,hz0,hz1,hz2⟩:=XR JH;have:=run_make (P:=Tryz.prog) w 22 3 i0 (.int .i64 0) Tryz.underlying22 hi hz0 .i64 .i64 l c QQ QQ QE3 QQ;rw[hz1,XK,XK,Nat.mul_one]at this;exact this
theorem gY(w:World)(base c:Nat)(hb:base<=w.heap.size)(hc:c<=17592186044416):Own 3 base (w.alloc (.cells (madeCells #[.int .i64 0] c) 3)) (.slice (some ⟨w.heap.size,0,none⟩) 0 c) []:=
 World.ownsRow_made w _ c hb Qg QEE
theorem NI(a b:Option Addr)(na nb ca cb:Nat)(xs ys:List Int)(t:Bool)(ht:t=true↔xs=ys)(w:World)(ha:Ints w a xs)(hb:Ints w b ys)(hna:xs.length=na)(hnb:ys.length=nb)(hx:na<=9223372036854775807):
  Calls Tryz.prog 12 #[.slice a na ca,.slice b nb cb] w fun e w'=>e=.returned (.bool t)/\∃n,w'=w.drewN n:=by
 refine(Ws a b na nb ca cb xs ys w ha hb hna hnb hx).mono ?_;rintro e w' ⟨rfl,h⟩;refine⟨Xg ?_,h⟩;rw[Bool.eq_iff_iff,Xe];exact ht.symm
theorem uY(a b:Option Addr)(na nb ca cb:Nat)(xs:List Int)(w:World)(ha:Ints w a xs)(hb:Ints w b xs)(hna:xs.length=na)(hnb:xs.length=nb)(hx:na<=9223372036854775807):
  Calls Tryz.prog 12 #[.slice a na ca,.slice b nb cb] w fun e w'=>e=.returned (.bool true)/\∃n,w'=w.drewN n:=by
 refine(Ws a b na nb ca cb xs xs w ha hb hna hnb hx).mono ?_;rintro e w' ⟨rfl,h⟩;exact⟨Xg QJ,h⟩
theorem zb{w:World}{g:Nat}{slots:List Int}{T:TypeId}(h:Za w g (slots.map (Value.int .i64)).toArray T){i:Nat}(hi:i<slots.length):w.cell? ⟨g,i,none⟩=some (.int .i64 (ix slots i)):=by
 rw[h.cell i];simp[ix,hi]
theorem Fq{w:World}{g:Nat}{slots:List Int}{T:TypeId}(h:Za w g (slots.map (Value.int .i64)).toArray T)(i:Nat)(x:Int):Za (w.setCell ⟨g,i,none⟩ (.int .i64 x)) g ((slots.set i x).map (Value.int .i64)).toArray T:=by
 have:=h.set i (.int .i64 x)
 rwa[show(slots.map (Value.int .i64)).toArray.setIfInBounds i (.int .i64 x)=((slots.set i x).map (Value.int .i64)).toArray from by simp[List.map_set]]at this
theorem vW(n:Nat):madeCells #[.int .i64 0] n=((List.replicate n (0:Int)).map (Value.int .i64)).toArray:=by
 apply Array.toList_inj.1;rw[toList_madeCells_one];simp
theorem RD{l:List Int}{i j:Nat}{x:Int}(h:i≠j):ix (l.set i x) j=ix l j:=by
 unfold ix;simp[List.getElem?_set,h]
theorem RF{l:List Int}{i:Nat}{x:Int}(h:i<l.length):ix (l.set i x) i=x:=by
 unfold ix;simp[List.getElem?_set,h]
theorem Bu{w:World}{g:Nat}{slots:List Int}{T:TypeId}(h:Za w g (slots.map (Value.int .i64)).toArray T):Ints w (some ⟨g,0,none⟩) slots:=
 .inr ⟨g,0,rfl,fun i hi=>by rw[XI];exact zb h hi⟩
def ow(cs:Array Value):Nat->List Value->Array Value
 | _,[]=>cs
 | o,v::r=>ow (cs.setIfInBounds o v) (o+1) r
theorem FP(vs:List Value):∀(cs:Array Value) (o:Nat),(ow cs o vs).size=cs.size:=by
 induction vs with
 | nil=>intro cs o;rfl
 | cons v r ih=>intro cs o;simp[ow,ih]
theorem gq(vs:List Value):∀(cs:Array Value) (o i:Nat),i<cs.size->(ow cs o vs)[i]? =if o<=i/\i<o+vs.length then vs[i-o]? else cs[i]?:=by
 induction vs with
 | nil=>intro cs o i hi;simp[ow];omega
 | cons v r ih=>
  intro cs o i hi;simp only[ow];rw[ih _ _ _ QDb];by_cases h1:o+1<=i/\i<o+1+r.length
  ·rw[if_pos h1,if_pos QY]
   rw[show i-o=(i-(o+1))+1 from QQ];simp
  ·rw[if_neg h1]
   by_cases h2:o=i
   ·subst h2
    rw[if_pos QJ];simp[hi]
   ·rw[if_neg QY]
    simp[Array.getElem?_setIfInBounds,h2]
theorem QYU{cs:Array Value}{vs:List Value}(h:cs.size=vs.length):ow cs 0 vs=vs.toArray:=by
 apply Array.ext_getElem?;intro i;by_cases hi:i<cs.size
 ·rw[gq vs cs 0 i hi,if_pos QQ];simp
 ·rw[Array.getElem?_eq_none (by rw[FP];omega),Array.getElem?_eq_none QY]
theorem Za.setCells{B:Nat}{e:TypeId}(vs:List Value):∀{w:World} {cs:Array Value} (o:Nat),Za w B cs e->Za (w.setCells B o vs) B (ow cs o vs) e:=by
 induction vs with
 | nil=>intro w cs o h;exact h
 | cons v r ih=>intro w cs o h;exact ih (o+1) (h.set o v)
theorem Za.WX{B B':Nat}{e:TypeId}{cs:Array Value}(hne:B≠B')(vs:List Value):∀{w:World} (o:Nat),Za w B cs e->Za (w.setCells B' o vs) B cs e:=by
 induction vs with
 | nil=>intro w o h;exact h
 | cons v r ih=>intro w o h;exact ih (o+1) (h.other (a:=⟨B',o,none⟩) hne v)
theorem below_setCells{N B:Nat}{a:World}(hN:N<=B)(vs:List Value):∀{w:World} (o:Nat),Below N a w->Below N a (w.setCells B o vs):=by
 induction vs with
 | nil=>intro w o h;exact h
 | cons v r ih=>intro w o h;exact ih (o+1) (h.setCell (p:=⟨B,o,none⟩) hN v)
theorem size_setCells{B:Nat}(vs:List Value):∀(w:World) (o:Nat),(w.setCells B o vs).heap.size=w.heap.size:=by
 induction vs with
 | nil=>intro w o;rfl
 | cons v r ih=>intro w o;simp only[World.setCells];rw[ih];exact size_setCell _ _ _
structure Left (B:Nat) (w w':World):Prop where
 blk:∀{B':Nat} {cs:Array Value} {e:TypeId},B'≠B->Za w B' cs e->Za w' B' cs e
 Xw:∀{N:Nat} {a:World},N<=B->Below N a w->Below N a w'
 size:w'.heap.size=w.heap.size
theorem J7{fn:Func}{s t:Tmp}{T:TypeId}(h:fn.results=#[.cell s T,.tmp t]){tmps:Array Value}{P:Program}{w:World}{ad:Addr}{v:Value}(hp:tmps.getD s undef=.pointer (some ad))(hl:(loadVar T ad).run P w=.ok v w):
  (results fn tmps).run P w=.ok (.tuple #[v,tmps.getD t undef]) w:=by
 exact QLv
theorem W9(w:World)(ty:TypeId)(v:Value)(xs:List Int)(base c2:Nat)(hown:Own 3 base w v xs)(hl:xs.length<=17592186044416):
  (Builtin.append_ #[22,22] ty #[v,.slice none 0 c2]).run Tryz.prog w=.ok v w:=by
 obtain⟨i0,hi,hz0,hz1,hz2⟩:=XR JH;rcases hown.2 with⟨rfl,h0⟩|⟨g,cap,cur,rfl,hb,hg,hn,hm,hs,ht⟩
 ·simp[Builtin.append_,Y1 Tryz.underlying22,sizeOf,typeInfo,hi,Builtin.lenOf,Builtin.firstCells,loadCells,loadCellsFrom,storeCells]
 ·simp[Builtin.append_,Y1 Tryz.underlying22,sizeOf,typeInfo,hi,Builtin.lenOf,Builtin.firstCells,loadCells,loadCellsFrom,storeCells,hn]
theorem QJn{ops:Array Oper}{rest:List Oper}{o:Oper}{a:Act}{Q:Exit->Act->World->Prop}{w:World}(hgd:o.guard=none)(s x:Operand)
  (ho:o.op=.call {callee:=.builtin .append,args:=#[s,x],argTypes:=#[22,22]})
  (base:Nat) (v:Value) (xs ys:List Int) (ad:Option Addr) (m c:Nat) (hs:a.eval s=v) (hx:a.eval x=.slice ad m c)
  (hown:Own 3 base w v xs) (hy:Ints w ad ys) (hm:ys.length=m) (h0:ad=none->m=0) (hl:xs.length+m<=17592186044416) (hbase:base<=w.heap.size)
  (h:∀v' w',Own 3 base w' v' (xs++ys)->w.grownBy w' v.ownBlock->wpList Tryz.prog ops Q rest (a.put o.dst v') w'):
  wpList Tryz.prog ops Q (o::rest) a w:=by
 rcases ad with _|ad
 ·obtain rfl:m=0:=h0 rfl
  obtain rfl:ys=[]:=ZM hm;refine Lib.wpList_append_run w hgd s x _ _ ho v (.slice none 0 c) hs hx v w (W9 w _ v xs base c hown QQ) ?_;exact h v w QEd ⟨rfl,rfl,rfl,ZB _,fun _ _ _=>rfl⟩
 ·exact kL hgd s x ho base v xs ys ad m c hs hx hown hy hm hl hbase fun v' w' h1 h2 _=>h v' w' h1 h2
def oQ(w:World)(e:Ending)(w':World):Prop:=∃v,e=.returned v/\Own 3 w.heap.size w' v []/\Below w.heap.size w w'
theorem uE(n:Nat)(w:World)(hn:n<=17592186044416):
  Calls Tryz.prog 143 #[.slice none 0 0,.int .i64 (n:Int)] w (oQ w):=by
 by_cases h0:n=0
 ·subst h0
  go_enter Tryz.func143,Tryz.ntmps143
  go_wp2;go_ret;exact⟨_,rfl,Own.nil _ _ _,ZH _ _⟩
 ·obtain⟨i0,hi,hz0,hz1,hz2⟩:=XR JH
  have hr:=fun ty=>Lib.run_append_nil_zeros (P:=Tryz.prog) w 22 3 ty 3 i0 (.int .i64 0) .i64 .i64 Tryz.underlying22 Tryz.underlying3 hi hz0 n QQ (by rw[hz1];omega) QQ QE3
  obtain⟨G,hG⟩:∃G,grownCap w n 0 3=G:=⟨_,rfl⟩;have hg1:n<=G:=by rw[<-hG];exact grownCap_ge _ _ _ _
  have hg2:G<=maxLen:=by rw[<-hG];exact grownCap_le_maxLen _ _ _ _ Qg
  rw[hG]at hr;have hg3:G<=9223372036854775807:=by unfold maxLen at hg2;omega
  obtain⟨cs,hcs⟩:∃cs,Builtin.zeroCells (Value.int .i64 0).cells n++Builtin.zeroCells (Value.int .i64 0).cells (G-n)=cs:=⟨_,rfl⟩;have hsz:cs.size=G:=by rw[<-hcs,Array.size_append,size_zeroCells,size_zeroCells];simp[Value.cells];omega
  rw[hcs]at hr;have HS:=Zy hsz;clear hG hcs hsz;have hn0:0<n:=QQ;go_enter Tryz.func143,Tryz.ntmps143
  go_wp2_with (at_builtin;refine Lib.wpList_append_run _ rfl _ _ _ _ rfl _ _ rfl rfl _ _ (hr _) ?_)
  go_ret;refine⟨_,rfl,⟨QJ,.inr ⟨w.heap.size,G,cs,rfl,ZB _,heap_alloc_new w.drew _,QJ,hg2,by rw[HS.out];omega,QJ⟩⟩,(ZH _ _).drew.alloc (ZB _) _⟩
def U6(X:Nat->List Int):Nat->List Int
 | 0=>[]
 | k+1=>U6 X k++X k
def QZA(xs:List Int)(w:World)(e:Ending)(w':World):Prop:=∃v,e=.returned v/\Own 3 w.heap.size w' v xs/\Below w.heap.size w w'
structure xD (w:World) (B m:Nat) (A:Nat->Option Addr) (N C:Nat->Nat) (X:Nat->List Int):Prop where
 cell:∀i,i<m->w.cell? ⟨B,i,none⟩=some (.slice (A i) (N i) (C i))
 ints:∀i,i<m->Ints w (A i) (X i)
 len:∀i,i<m->(X i).length=N i
 top:∀i,i<m->N i<=1048576
 none:∀i,i<m->A i=none->N i=0
theorem xD.keep{w w':World}{B m:Nat}{A:Nat->Option Addr}{N C:Nat->Nat}{X:Nat->List Int}(h:xD w B m A N C X)(hb:Below w.heap.size w w'):xD w' B m A N C X:=
 ⟨fun i hi=>Zd hb _ _ (h.cell i hi),fun i hi=>(h.ints i hi).below hb,h.len,h.top,h.none⟩
theorem xD.sum{w:World}{B m:Nat}{A:Nat->Option Addr}{N C:Nat->Nat}{X:Nat->List Int}(h:xD w B m A N C X)(k:Nat)(hk:k<=m):(U6 X k).length<=1048576*k:=by
 induction k with
 | zero=>simp[U6]
 | succ k ih=>
  have:=ih QQ;have h1:=h.len k QQ;have h2:=h.top k QQ;simp only[U6,ZN];omega
theorem WZ(B m:Nat)(A:Nat->Option Addr)(N C:Nat->Nat)(X:Nat->List Int)(w:World)(h:xD w B m A N C X)(hm:m<=8):
  Calls Tryz.prog 123 #[.slice (some ⟨B,0,none⟩) m m] w (QZA (U6 X m) w):=by
 have H:=Zy h;clear h;go_enter Tryz.func123,Tryz.ntmps123
 go_wp2
 go_loopw [11,3] (fun i s wr=>∃k:Nat,i=.int .i64 (k:Int)/\s=.int .i64 ((U6 X k).length:Int)/\k<=m/\w=wr) (fun i _ _=>m-(intOf i).toNat)
 case atStart=>exact⟨0,rfl,rfl,QQ,rfl⟩
 case round=>
  obtain⟨k,rfl,rfl,hk,rfl⟩:=hrel;have hs:=H.out.sum k hk;by_cases hlt:k<m
  ·have ck:=H.out.cell k hlt
   have hN:=H.out.top k hlt;have HL:=Zy (show((U6 X (k+1)).length:Int)=((U6 X k).length:Int)+(N k:Int) by simp[U6,H.out.len k hlt]);have i1:(k:Int)<(m:Int):=QQ;go_wp2;go_roundw
   case rel=>exact⟨k+1,Qy,by rw[HL.out],QQ,QC4⟩
   case measure=>simp[intOf];omega
  ·obtain rfl:m=k:=by omega
   go_wp2_with fail
   refine(uE (U6 X m).length w QQ).mono ?_;rintro e w2 ⟨v,rfl,hown,hb2⟩;have h2:=H.out.keep hb2;have H2:=Zy h2;clear h2;go_wp2
   go_loopw [27,6] (fun i u wr=>∃k:Nat,i=.int .i64 (k:Int)/\k<=m/\Own 3 w.heap.size wr u (U6 X k)/\Below w.heap.size w wr) (fun i _ _=>m-(intOf i).toNat)
   case atStart=>exact⟨0,rfl,QQ,hown,hb2⟩
   case round=>
    clear hs hlt hk;obtain⟨k,rfl,hk,hown3,hb3⟩:=hrel;have hs:=H.out.sum k hk;by_cases hlt:k<m
    ·have h3:=H.out.keep hb3
     have ck:=h3.cell k hlt;have hN:=h3.top k hlt;have hI:=h3.ints k hlt;have HNk:=Zy (h3.len k hlt);have H0:=Zy (h3.none k hlt);have HJ:=Zy (show U6 X (k+1)=U6 X k++X k from rfl);have i1:(k:Int)<(m:Int):=QQ;have hrow:=hown3.row;have hsz:=hb3.size;clear h3;go_wp2_with (at_builtin;refine QJn rfl _ _ rfl w.heap.size u6 _ _ _ _ _ rfl rfl hown3 hI HNk.out H0.out QQ hsz ?_;intro v4 w4 zq BO)
     go_roundw
     case rel=>exact⟨k+1,Qy,QQ,by rw[HJ.out];exact zq,hb3.grown BO hb3.size hrow⟩
     case measure=>simp[intOf];omega
    ·obtain rfl:m=k:=by omega
     go_wp2;go_ret;exact⟨_,rfl,hown3,hb3⟩
theorem xD.drew{w:World}{B m:Nat}{A:Nat->Option Addr}{N C:Nat->Nat}{X:Nat->List Int}(h:xD w B m A N C X):xD w.drew B m A N C X:=
 ⟨h.cell,fun i hi=>(h.ints i hi).drew,h.len,h.top,h.none⟩
def NN{α:Type}(x y z:α)(i:Nat):α:=if i=0 then x else if i=1 then y else z
theorem Ot(w:World)(T:TypeId){a0 a1 a2:Option Addr}{n0 n1 n2:Nat}(c0 c1 c2:Nat){x0 x1 x2:List Int}(i0:Ints w a0 x0)(i1:Ints w a1 x1)(i2:Ints w a2 x2)(l0:x0.length=n0)(l1:x1.length=n1)(l2:x2.length=n2)
  (t0:n0<=1048576) (t1:n1<=1048576) (t2:n2<=1048576) (z0:a0=none->n0=0) (z1:a1=none->n1=0) (z2:a2=none->n2=0):
  xD (w.alloc (.cells #[.slice a0 n0 c0,.slice a1 n1 c1,.slice a2 n2 c2] T)) w.heap.size 3 (NN a0 a1 a2) (NN n0 n1 n2) (NN c0 c1 c2) (NN x0 x1 x2):=by
 obtain⟨y0,y1,y2,-⟩:=Za.three (Za.new w #[.slice a0 n0 c0,.slice a1 n1 c1,.slice a2 n2 c2] T);have hb:=ZR w (.cells #[.slice a0 n0 c0,.slice a1 n1 c1,.slice a2 n2 c2] T);refine⟨fun i hi=>?_,fun i hi=>?_,fun i hi=>?_,fun i hi=>?_,fun i hi=>?_⟩
 all_goals obtain rfl|rfl|rfl:i=0\/i=1\/i=2:=QQ
 ·exact y0
 ·exact y1
 ·exact y2
 ·exact i0.below hb
 ·exact i1.below hb
 ·exact i2.below hb
 ·exact l0
 ·exact l1
 ·exact l2
 ·exact t0
 ·exact t1
 ·exact t2
 ·exact z0
 ·exact z1
 ·exact z2
theorem Nw(x0 x1 x2:List Int):U6 (NN x0 x1 x2) 3=x0++x1++x2:=by simp[U6,NN]
theorem Ints.QXW{w:World}{ad:Addr}{xs:List Int}(h:Ints w (some ad) xs)(k:Nat):Ints w (some (ad.add k)) (xs.drop k):=by
 rcases h with h|⟨b',o',ha,h⟩
 ·subst h;exact .inl QJ
 ·have h2:Ints w (some ⟨b',o',none⟩) xs:=.inr ⟨b',o',rfl,h⟩
  simp only[ZL]at ha;subst ha;have hadd:(⟨b',o',none⟩:Addr).add k=⟨b',o'+k,none⟩:=QF;rw[hadd];exact h2.drop k
def Sep(v1 v2:Value):Prop:=v1.ownBlock=none\/v1.ownBlock≠v2.ownBlock
theorem Own.sep{e:TypeId}{base:Nat}{w1 w2:World}{v1 v2:Value}{xs ys:List Int}(h1:Own e base w1 v1 xs)(h2:Own e w1.heap.size w2 v2 ys):Sep v1 v2:=by
 rcases hv:v1.ownBlock with _|k
 ·exact .inl hv
 ·refine .inr ?_
  rw[hv];exact h2.ne (XC h1 k hv).2
theorem Sep.symm{v1 v2:Value}(h:Sep v1 v2):Sep v2 v1:=by
 rcases h with h|h
 ·rcases hv:v2.ownBlock with _|k
  ·exact .inl hv
  ·exact .inr (by rw[h,hv];simp)
 ·exact .inr (fun e=>h e.symm)
theorem Own.grown{e:TypeId}{base:Nat}{w w':World}{v v2:Value}{xs:List Int}(h:Own e base w v xs)(hg:w.grownBy w' v2.ownBlock)(hs:Sep v v2):Own e base w' v xs:=World.ownsRow.kept h hg hs
theorem Own.pop{e:TypeId}{base:Nat}{w:World}{g m c:Nat}{xs:List Int}(h:Own e base w (.slice (some ⟨g,0,none⟩) (m+1) c) xs):Own e base w (.slice (some ⟨g,0,none⟩) m c) xs.dropLast:=by
 have hl:=h.get.1;have hd:xs.dropLast.length=m:=QY;rcases h.2 with⟨h1,_⟩|⟨g',cap,cur,h1,h2,h3,h4,h5,h6,h7⟩
 ·simp at h1
 ·simp only[Xy,ZL,YR]at h1
  obtain⟨⟨rfl,_,_⟩,_,rfl⟩:=h1;refine⟨QJ,.inr ⟨g,c,cur,by rw[hd],h2,h3,QQ,h5,h6,?_⟩⟩;rw[hl]at h7;have:(List.take ((m+1)*1) cur.toList).take (m*1)=(xs.map (Value.int .i64)).take (m*1):=by rw[h7]
  rw[List.take_take]at this;rw[hd];rw[show min (m*1) ((m+1)*1)=m*1 from QQ]at this;rw[this,Nat.mul_one,<-List.map_take,List.dropLast_eq_take,hl];rfl
def vx(vs:List Value)(i:Nat):Value:=vs.getD i undef
def rx(X:List (List Int))(i:Nat):List Int:=X.getD i []
def Xo(vs:List Value):Array Value:=vs.toArray
theorem Yr(vs:List Value):(Xo vs).size=vs.length:=by simp[Xo]
theorem YC{vs:List Value}{i:Nat}(h:i<vs.length)(v:Value):vx (vs.set i v) i=v:=by simp[vx,h]
theorem ZP{vs:List Value}{i j:Nat}(h:i≠j)(v:Value):vx (vs.set i v) j=vx vs j:=by
 unfold vx;simp[List.getElem?_set,h]
theorem ET{vs:List Value}{v:Value}(h:v∈vs):∃i,i<vs.length/\vx vs i=v:=by
 obtain⟨i,hi,rfl⟩:=XN.1 h;exact⟨i,hi,by simp[vx,hi]⟩
theorem ja{X:List (List Int)}{i:Nat}(h:i<X.length)(v:List Int):rx (X.set i v) i=v:=by simp[rx,h]
theorem jT{X:List (List Int)}{i j:Nat}(h:i≠j)(v:List Int):rx (X.set i v) j=rx X j:=by
 unfold rx;simp[List.getElem?_set,h]
def Sl(w:World)(v:Value)(xs:List Int):Prop:=∃a n c,v=.slice a n c/\xs.length=n/\n<=c/\c<=9223372036854775807/\Ints w a xs/\(a=none->n=0)
theorem Sl.keep{w w':World}{v:Value}{xs:List Int}(h:Sl w v xs)(hc:∀p v,w.cell? p=some v->w'.cell? p=some v):Sl w' v xs:=by
 exact QLC
theorem Sl.below{w w':World}{v:Value}{xs:List Int}(h:Sl w v xs)(hb:Below w.heap.size w w'):Sl w' v xs:=h.keep (Zd hb)
theorem Sl.drewN{w:World}{v:Value}{xs:List Int}(h:Sl w v xs)(n:Nat):Sl (w.drewN n) v xs:=h.keep (fun _ _ h=>h)
theorem Sl.drew{w:World}{v:Value}{xs:List Int}(h:Sl w v xs):Sl w.drew v xs:=h.keep (fun _ _ h=>h)
theorem Sl.nil(w:World):Sl w (.slice none 0 0) []:=⟨none,0,0,rfl,rfl,ZB _,QQ,Ints.nil _ _,fun _=>rfl⟩
theorem Own.sl{e:TypeId}{base:Nat}{w:World}{v:Value}{xs:List Int}(h:Own e base w v xs):Sl w v xs:=by
 obtain⟨a,c,rfl,h1,h2⟩:=h.ints;refine⟨a,_,c,rfl,rfl,h1,?_,h2,fun ha=>?_⟩
 ·rcases h.2 with⟨hv,_⟩|⟨g,cap,cur,hv,hb,hg,hn,hm,hs,ht⟩
  ·simp at hv;omega
  ·simp only[Xy]at hv
   obtain⟨_,_,rfl⟩:=hv;unfold maxLen at hm;omega
 ·rcases h.2 with⟨hv,h0⟩|⟨g,cap,cur,hv,_⟩
  ·exact h0
  ·simp[ha]at hv
theorem Sl.get{w:World}{a:Option Addr}{n c:Nat}{xs:List Int}(h:Sl w (.slice a n c) xs):xs.length=n/\n<=c/\c<=9223372036854775807/\Ints w a xs/\(a=none->n=0):=by
 exact QI9
end Go.Proofs.YtmdnepkekekncaaGreat
