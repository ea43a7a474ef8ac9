/- LiftTopBounds: joined, no condition of its own. -/
import Derived.Test.YtmdcencmiopmmaaGreatTbJoinT
import Derived.Test.YtmdcencmiopmmaaGreatTbJoinJ30
import Derived.Test.YtmdcencmiopmmaaGreatTbJoinJ32
set_option linter.unusedVariables false
set_option linter.unusedSimpArgs false
set_option maxRecDepth 100000
set_option maxHeartbeats 12000000
namespace Go.Proofs.YtmdcencmiopmmaaGreat
open Go.RowKit
def ZZ(F:Nat->Prop)(w w':World):Prop:=∀p v,F p.block->w.cell? p=some v->w'.cell? p=some v
theorem ZZ.refl(F:Nat->Prop)(w:World):ZZ F w w:=fun _ _ _ h=>h
theorem ZZ.trans{F:Nat->Prop}{a b c:World}(h:ZZ F a b)(g:ZZ F b c):ZZ F a c:=fun p v hp hc=>g p v hp (h p v hp hc)
theorem ZZ.below(F:Nat->Prop){w w':World}(hb:Below w.heap.size w w'):ZZ F w w':=fun p v _ hc=>Qk hb p v hc
theorem ZZ.setCell{F:Nat->Prop}{w:World}{a:Addr}(ha:¬F a.block)(u:Value):ZZ F w (w.setCell a u):=fun p v hp hc=>Qa hc (fun e=>ha (e▸hp))
def Ym(F:Nat->Prop)(w:World):Value->Tr->Prop
 | v,.nil=>v=.pointer none
 | v,.node l c r=>∃b lv rv,F b/\v=.pointer (some ⟨b,0,none⟩)/\w.cell? ⟨b,0,none⟩=some lv/\w.cell? ⟨b,1,none⟩=some rv/\w.cell? ⟨b,2,none⟩=some (.int .i64 c)/\
   w.cell? ⟨b,3,none⟩=some (.int .i64 ((Tr.node l c r).Yt.length:Int))/\w.cell? ⟨b,4,none⟩=some (.int .i64 ((Tr.node l c r).Wj:Int))/\Ym F w lv l/\Ym F w rv r
theorem Ym.tree{F:Nat->Prop}{w:World}:∀{t:Tr} {v:Value},Ym F w v t->KX w v t
 | .nil,_,h=>h
 | .node l c r,_,⟨b,lv,rv,_,h0,h1,h2,h3,h4,h5,h6,h7⟩=>⟨b,lv,rv,h0,h1,h2,h3,h4,h5,h6.tree,h7.tree⟩
theorem Ym.keep{F G:Nat->Prop}{w w':World}(hc:ZZ F w w')(hi:∀k,F k->G k):∀{t:Tr} {v:Value},Ym F w v t->Ym G w' v t
 | .nil,_,h=>h
 | .node l c r,_,⟨b,lv,rv,hb,h0,h1,h2,h3,h4,h5,h6,h7⟩=>⟨b,lv,rv,hi b hb,h0,hc _ _ hb h1,hc _ _ hb h2,hc _ _ hb h3,hc _ _ hb h4,hc _ _ hb h5,h6.keep hc hi,h7.keep hc hi⟩
theorem Ym.lt{F:Nat->Prop}{w:World}:∀{t:Tr} {v:Value},Ym F w v t->Ym (fun k=>F k/\k<w.heap.size) w v t
 | .nil,_,h=>h
 | .node l c r,_,⟨b,lv,rv,hb,h0,h1,h2,h3,h4,h5,h6,h7⟩=>⟨b,lv,rv,⟨hb,Zv h1⟩,h0,h1,h2,h3,h4,h5,h6.lt,h7.lt⟩
def Ul(F:Nat->Prop)(w:World)(v:Value)(l:List Int):Prop:=∃T,Ym F w v T/\T.Yt=l
theorem Ul.keep{F G:Nat->Prop}{w w':World}{v:Value}{l:List Int}(h:Ul F w v l)(hc:ZZ F w w')(hi:∀k,F k->G k):Ul G w' v l:=by
 obtain⟨T,h1,h2⟩:=h;exact⟨T,h1.keep hc hi,h2⟩
theorem Ul.lt{F:Nat->Prop}{w:World}{v:Value}{l:List Int}(h:Ul F w v l):Ul (fun k=>F k/\k<w.heap.size) w v l:=by
 obtain⟨T,h1,h2⟩:=h;exact⟨T,h1.lt,h2⟩
theorem Ul.nil(F:Nat->Prop)(w:World):Ul F w (.pointer none) []:=⟨.nil,rfl,rfl⟩
theorem Ul.ptr{F:Nat->Prop}{w:World}{v:Value}{l:List Int}(h:Ul F w v l):∃p,v=.pointer p:=by
 obtain⟨T,h1,h2⟩:=h;exact h1.tree.form
def aY(F:Nat->Prop)(w:World)(v:Value)(es:List (List Int×Int)):Prop:=
 ∃us:List V2,xW F w v us/\us.length=es.length/\∀i (h:i<es.length),Ul F w (WO us i).a es[i].1/\(WO us i).b=.int .i64 es[i].2
theorem aY.keep{F G:Nat->Prop}{w w':World}{v:Value}{es:List (List Int×Int)}(h:aY F w v es)(hc:ZZ F w w')(hi:∀k,F k->G k):aY G w' v es:=by
 obtain⟨us,h1,h2,h3⟩:=h;exact⟨us,(h1.keep hc).imp hi,h2,fun i hi'=>⟨(h3 i hi').1.keep hc hi,(h3 i hi').2⟩⟩
theorem aY.nil(F:Nat->Prop)(w:World):aY F w (.slice none 0 0) []:=⟨[],xW.nil _ _,rfl,fun i hi=>by simp at hi⟩
def ChP(F:Nat->Prop)(w:World)(v:Value):Option (C5×List Int)->Prop
 | none=>v=.pointer none
 | some (c,ty)=>∃C tv,v=.pointer (some ⟨C,0,none⟩)/\F C/\QD w C #[.int .i64 c.a,.int .i64 c.b,.int .i64 c.c,.int .i64 c.d,.int .i64 c.e,tv] 219/\XH F w tv ty
def KI(F:Nat->Prop)(w w':World):Prop:=∀B cs e,F B->QD w B cs e->QD w' B cs e
theorem ChP.keep{F G:Nat->Prop}{w w':World}{v:Value}{o:Option (C5×List Int)}(h:ChP F w v o)(hc:ZZ F w w')(hb:KI F w w')(hi:∀k,F k->G k):ChP G w' v o:=by
 cases o with
 | none=>exact h
 | some p=>
  obtain⟨C,tv,h1,h2,h3,h4⟩:=h;exact⟨C,tv,h1,hi _ h2,hb _ _ _ h2 h3,(h4.keep hc).imp hi⟩
def xk(F:Nat->Prop)(w:World)(us:List V2)(es:List (Int×List Int)):Prop:=
 us.length=es.length/\∀i (h:i<es.length),(WO us i).a=.int .i64 es[i].1/\XH F w (WO us i).b es[i].2
theorem xk.keep{F G:Nat->Prop}{w w':World}{us:List V2}{es:List (Int×List Int)}(h:xk F w us es)(hc:ZZ F w w')(hi:∀k,F k->G k):xk G w' us es:=
 ⟨h.1,fun i hi'=>⟨(h.2 i hi').1,((h.2 i hi').2.keep hc).imp hi⟩⟩
theorem xk.snoc{F:Nat->Prop}{w:World}{us:List V2}{es:List (Int×List Int)}{k:Int}{v:Value}{l:List Int}(h:xk F w us es)(hv:XH F w v l):xk F w (us++[⟨.int .i64 k,v⟩]) (es++[(k,l)]):=by
 refine⟨by simp[h.1],fun i hi=>?_⟩;by_cases hlt:i<es.length
 ·rw[jY (by rw[h.1];exact hlt),List.getElem_append_left hlt]
  exact h.2 i hlt
 ·obtain rfl:i=es.length:=by simp at hi;omega
  have:=zx (es:=us) (us:=[⟨.int .i64 k,v⟩]) (i:=0);rw[Zp,h.1]at this;rw[this,List.getElem_append_right (QU _)];simp only[Nat.sub_self,List.getElem_cons_zero];exact⟨rfl,hv⟩
theorem xk.nil(F:Nat->Prop)(w:World):xk F w [] []:=⟨rfl,fun i hi=>by simp at hi⟩
def jG(f:Nat->Value):Array Value:=((List.range 58).map f).toArray
def K9(w:World)(B:Nat)(f:Nat->Value):Prop:=QD w B (jG f) 112
theorem BH(f:Nat->Value){i:Nat}(hi:i<58):(jG f)[i]? =some (f i):=by
 unfold jG;rw[List.getElem?_toArray,List.getElem?_map,List.getElem?_range hi];rfl
theorem K9.cell{w:World}{B:Nat}{f:Nat->Value}(h:K9 w B f){i:Nat}(hi:i<58):w.cell? ⟨B,i,none⟩=some (f i):=by rw[QD.cell h,BH f hi]
theorem K9.free{w:World}{B:Nat}{f:Nat->Value}(h:K9 w B f)(i:Nat):w.frozen? ⟨B,i,none⟩=false:=QD.free h i
def JQ(f:Nat->Value)(n:Nat)(v:Value):Nat->Value:=fun x=>bif Nat.beq x n then v else f x
theorem YK(f:Nat->Value)(n:Nat)(v:Value):JQ f n v n=v:=by unfold JQ;rw[Nat.beq_refl];rfl
theorem Zg{f:Nat->Value}{n x:Nat}{v:Value}(h:x≠n):JQ f n v x=f x:=by
 unfold JQ;rw[show Nat.beq x n=false from by rw[Bool.eq_false_iff];exact fun e=>h (Nat.eq_of_beq_eq_true e)];rfl
theorem K9.set{w:World}{B:Nat}{f:Nat->Value}(h:K9 w B f)(i:Nat)(u:Value):K9 (w.setCell ⟨B,i,none⟩ u) B (JQ f i u):=by
 have:=QD.set h i u;unfold K9
 rwa[show(jG f).setIfInBounds i u=jG (JQ f i u)from by
  apply Array.ext';unfold jG;simp only[QZ];apply List.ext_getElem
  ·simp
  ·intro n h1 h2
   simp only[List.getElem_set,List.getElem_map,List.getElem_range];by_cases e:i=n
   ·subst e;rw[if_pos rfl,YK]
   ·rw[if_neg e,Zg (fun e2=>e e2.symm)]]at this
def O5(f:Nat->Value):List Value:=[f 3,f 4,f 5,f 6,f 7,f 8,f 9,f 10,f 11,f 12,f 13,f 14,f 15,f 16,f 17,f 18,f 19,f 20,f 21,f 22,f 23,f 24,f 25,f 26,f 27,f 28,f 29]
structure Vo (F:Nat->Prop) (w:World) (f:Nat->Value) (S:SS):Prop where
 text:Ul F w (f 0) S.text
 pos:f 1=.int .i64 S.pos
 mode:f 2=.int .i64 S.mode
 lr:S.regs.length=27
 regs:XE F w (O5 f) S.regs
 fk:f 30=.int .i64 S.fk
 fa:f 31=.int .i64 S.fa
 p0:f 32=.int .i64 S.part.a
 p1:f 33=.int .i64 S.part.b
 p2:f 34=.int .i64 S.part.c
 p3:f 35=.int .i64 S.part.d
 p4:f 36=.int .i64 S.part.e
 Qh:UO F w (f 37) S.Qh.most S.Qh.QM (f 40) (f 41) S.Qh.older S.Qh
 MK:f 38=.int .i64 S.Qh.most
 AA:f 39=.int .i64 S.Qh.QM
 holder:f 42=.bool S.Qh.older
 past:aY F w (f 43) S.past
 fut:f 44=.slice none 0 0
 first:Ul F w (f 45) S.first
 last:ChP F w (f 46) S.last
 ask:XH F w (f 48) S.ask
 older:f 49=.bool S.older
 pend:f 50=.string S.pend
 off:f 51=.int .i64 S.off
 width:f 52=.int .i64 S.width
 row:XH F w (f 53) S.row
 rat:f 54=.int .i64 S.rat
 over:f 55=.bool S.over
theorem UO.YZ{F G:Nat->Prop}{w w':World}{lv:Value}{most QM:Int}{sv pv:Value}{older:Bool}{h:Hi}(r:UO F w lv most QM sv pv older h)(hc:ZZ F w w')(hi:∀k,F k->G k):UO G w' lv most QM sv pv older h:=by
 obtain⟨vs,h1,h2⟩:=r.ls;exact⟨⟨vs,(h1.keep hc).imp hi,h2.imp fun v xs g=>(g.keep hc).imp hi⟩,r.most,r.QM,(r.Qm.keep hc).imp hi,(r.pat.keep hc).imp hi,r.older⟩
theorem Vo.keep{F G:Nat->Prop}{w w':World}{f:Nat->Value}{S:SS}(h:Vo F w f S)(hc:ZZ F w w')(hb:KI F w w')(hi:∀k,F k->G k):Vo G w' f S:=
 {
  h with
  text:=h.text.keep hc hi
  regs:=h.regs.imp fun v xs g=>(g.keep hc).imp hi
  Qh:=h.Qh.YZ hc hi
  past:=h.past.keep hc hi
  first:=h.first.keep hc hi
  last:=h.last.keep hc hb hi
  ask:=(h.ask.keep hc).imp hi
  row:=(h.row.keep hc).imp hi}
def iW(F G:Nat->Prop)(w:World)(v vv:Value):Option (C5×List Int)->Prop
 | none=>v=.pointer none
 | some (c,ty)=>∃C tv,v=.pointer (some ⟨C,0,none⟩)/\¬F C/\G C/\QD w C #[.int .i64 c.a,.int .i64 c.b,.int .i64 c.c,.int .i64 c.d,.int .i64 c.e,tv] 219/\Own 3 0 w tv ty/\
   ∀k,tv.ownBlock=some k->¬F k/\G k/\vv.ownBlock≠some k
structure Vz (F G:Nat->Prop) (w:World) (B:Nat) (f:Nat->Value) (S:SS):Prop where
 blk:K9 w B f
 nB:¬F B
 gB:G B
 now:iW F G w (f 47) (f 57) S.now
 told:∃us,ZB 45 0 w (f 56) us/\xk F w us S.told
 Xb:∀k,(f 56).ownBlock=some k->¬F k/\G k
 XK:Own 3 0 w (f 57) S.XK
 Ya:∀k,(f 57).ownBlock=some k->¬F k/\G k
structure HF (F G:Nat->Prop) (w:World) (B:Nat) (f:Nat->Value) (S:SS):Prop where
 fg:∀k,F k->G k
 lt:∀k,G k->k<w.heap.size
 d:Vo F w f S
 m:Vz F G w B f S
def Zw(F G:Nat->Prop)(w:World)(B:Nat)(S:SS):Prop:=∃f,HF F G w B f S
def Gx(G:Nat->Prop)(w w':World):Nat->Prop:=fun k=>G k\/(w.heap.size<=k/\k<w'.heap.size)
structure Step (G:Nat->Prop) (w w':World):Prop where
 os:w'.os=w.os
 tape:w'.tape=w.tape
 output:w'.output=w.output
 size:w.heap.size<=w'.heap.size
 block:∀k,k<w.heap.size->¬G k->w'.heap[k]? =w.heap[k]?
theorem Step.refl(G:Nat->Prop)(w:World):Step G w w:=⟨rfl,rfl,rfl,QU _,fun _ _ _=>rfl⟩
theorem Step.of_below(G:Nat->Prop){w w':World}(h:Below w.heap.size w w'):Step G w w':=⟨h.os,h.tape,h.output,h.size,fun k hk _=>h.block k hk⟩
theorem Step.trans{G:Nat->Prop}{a b c:World}(h:Step G a b)(g:Step (Gx G a b) b c):Step G a c:=
 ⟨g.os.trans h.os,g.tape.trans h.tape,g.output.trans h.output,QL h.size g.size,fun k hk hn=>(g.block k (QG hk h.size) (fun e=>by rcases e with e|e;exact hn e;omega)).trans (h.block k hk hn)⟩
theorem Gx.trans{G:Nat->Prop}{a b c:World}(h1:a.heap.size<=b.heap.size)(h2:b.heap.size<=c.heap.size):Gx (Gx G a b) b c=Gx G a c:=by
 funext k
 unfold Gx;apply propext;constructor
 ·rintro((h|h)|h)
  ·exact .inl h
  ·exact .inr (by omega)
  ·exact .inr (by omega)
 ·rintro(h|h)
  ·exact .inl (.inl h)
  ·by_cases hk:k<b.heap.size
   ·exact .inl (.inr (by omega))
   ·exact .inr (by omega)
theorem Gx.refl(G:Nat->Prop)(w:World):Gx G w w=G:=by
 funext k
 unfold Gx;apply propext;constructor
 ·rintro(h|h)
  ·exact h
  ·omega
 ·exact .inl
theorem KI.below(F:Nat->Prop){w w':World}(hb:Below w.heap.size w w'):KI F w w':=fun B cs e _ h=>h.below hb h.lt
theorem KI.setCell{F:Nat->Prop}{w:World}{a:Addr}(ha:¬F a.block)(u:Value):KI F w (w.setCell a u):=fun B cs e hB h=>h.other (fun e=>ha (e▸hB)) u
theorem Own.moved{e:TypeId}{base:Nat}{w w':World}{v:Value}{xs:List Int}(h:Own e base w v xs)(hb:∀k,v.ownBlock=some k->w'.heap[k]? =w.heap[k]?):Own e base w' v xs:=by
 exact QvP
theorem Own.yH{e:TypeId}{base:Nat}{w:World}{v:Value}{xs:List Int}(h:Own e base w v xs):∀k,v.ownBlock=some k->k<w.heap.size:=fun k hk=>(ZW h k hk).2
theorem QD.moved{w w':World}{B:Nat}{cs:Array Value}{e:TypeId}(h:QD w B cs e)(hb:w'.heap[B]? =w.heap[B]?):QD w' B cs e:=by unfold QD;rw[hb];exact h
theorem QD.type{w:World}{B:Nat}{cs ds:Array Value}{e e':TypeId}(h:QD w B cs e)(h':QD w B ds e'):e=e':=by
 unfold QD at *;rw[h]at h';simp at h';exact h'.2
def Ob(w:World)(f:Nat->Value)(k:Nat):Prop:=
 (f 56).ownBlock=some k\/(f 57).ownBlock=some k\/∃C,f 47=.pointer (some ⟨C,0,none⟩)/\(k=C\/∃tv,w.cell? ⟨C,5,none⟩=some tv/\tv.ownBlock=some k)
theorem iW.move{F G G':Nat->Prop}{w w':World}{v vv:Value}{o:Option (C5×List Int)}(h:iW F G w v vv o)(hG:∀k,G k->G' k)
  (hs:∀C,v=.pointer (some ⟨C,0,none⟩)->w'.heap[C]? =w.heap[C]?/\∀tv k,w.cell? ⟨C,5,none⟩=some tv->tv.ownBlock=some k->w'.heap[k]? =w.heap[k]?):iW F G' w' v vv o:=by
 cases o with
 | none=>exact h
 | some p=>
  obtain⟨C,tv,h1,h2,h3,h4,h5,h6⟩:=h;obtain⟨g1,g2⟩:=hs C h1;exact⟨C,tv,h1,h2,hG _ h3,h4.moved g1,h5.moved (fun k hk=>g2 tv k (h4.cell 5) hk),fun k hk=>⟨(h6 k hk).1,hG _ (h6 k hk).2.1,(h6 k hk).2.2⟩⟩
theorem Vz.move{F G G':Nat->Prop}{w w':World}{B:Nat}{f:Nat->Value}{S:SS}(h:Vz F G w B f S)(hG:∀k,G k->G' k)(hk:ZZ F w w')
  (hs:∀k,(k=B\/Ob w f k)->w'.heap[k]? =w.heap[k]?):Vz F G' w' B f S:=by
 obtain⟨us,ho,he⟩:=h.told;exact {
  blk:=QD.moved h.blk (hs B (.inl rfl))
  nB:=h.nB
  gB:=hG _ h.gB
  now:=h.now.move hG fun C hC=>⟨hs C (.inr (.inr (.inr ⟨C,hC,.inl rfl⟩))),fun tv k h1 h2=>hs k (.inr (.inr (.inr ⟨C,hC,.inr ⟨tv,h1,h2⟩⟩)))⟩
  told:=⟨us,ho.moved fun k hk=>hs k (.inr (.inl hk)),he.keep hk (fun _ h=>h)⟩
  Xb:=fun k hk=>⟨(h.Xb k hk).1,hG _ (h.Xb k hk).2⟩
  XK:=h.XK.moved fun k hk=>hs k (.inr (.inr (.inl hk)))
  Ya:=fun k hk=>⟨(h.Ya k hk).1,hG _ (h.Ya k hk).2⟩}
theorem Vz.Bw{F G:Nat->Prop}{w:World}{B:Nat}{f:Nat->Value}{S:SS}(h:Vz F G w B f S)(hG:∀k,G k->k<w.heap.size):∀k,Ob w f k->k<w.heap.size:=by
 rintro k (hk|hk|⟨C,hC,hk⟩)
 ·exact hG _ (h.Xb k hk).2
 ·exact hG _ (h.Ya k hk).2
 ·have hn:=h.now
  cases ho:S.now with
  | none=>
   exact Qvr
  | some p=>
   rw[ho]at hn;obtain⟨C',tv,h1,h2,h3,h4,h5,h6⟩:=hn;rw[hC]at h1;simp only[Value.pointer.injEq,Qv,Xz,and_true]at h1;subst h1;rcases hk with rfl|⟨Pe,h7,h8⟩
   ·exact hG _ h3
   ·rw[show w.cell? ⟨C,5,none⟩=some tv from h4.cell 5]at h7
    simp only[Qv]at h7;subst h7;exact hG _ (h6 k h8).2.1
theorem Vz.U4{F G:Nat->Prop}{w:World}{B:Nat}{f:Nat->Value}{S:SS}(h:Vz F G w B f S):∀k,Ob w f k->k≠B:=by
 obtain⟨us,ho,he⟩:=h.told;rintro k (hk|hk|⟨C,hC,hk⟩) rfl
 ·exact ho.ZA h.blk (by decide) hk.symm
 ·exact Own.ZA h.XK h.blk (by decide) hk.symm
 ·have hn:=h.now
  cases ho:S.now with
  | none=>
   exact Qvr
  | some p=>
   rw[ho]at hn;obtain⟨C',tv,h1,h2,h3,h4,h5,h6⟩:=hn;rw[hC]at h1;simp only[Value.pointer.injEq,Qv,Xz,and_true]at h1;subst h1;rcases hk with rfl|⟨Pe,h7,h8⟩
   ·exact absurd (h4.type h.blk) (by decide)
   ·rw[show w.cell? ⟨C,5,none⟩=some tv from h4.cell 5]at h7
    simp only[Qv]at h7;subst h7;exact h5.ZA h.blk (by decide) h8.symm
theorem HF.below{F F' G:Nat->Prop}{w w':World}{B:Nat}{f:Nat->Value}{S:SS}(h:HF F G w B f S)(hb:Below w.heap.size w w')(h1:∀k,F k->F' k)(h2:∀k,F' k->F k\/(w.heap.size<=k/\k<w'.heap.size)):HF F' (Gx G w w') w' B f S:=by
 obtain⟨hFG,sJ,hD,hM⟩:=h;have hlt:=hM.Bw sJ;refine⟨fun k hk=>?_,fun k hk=>?_,hD.keep (ZZ.below _ hb) (KI.below _ hb) h1,?_⟩
 ·rcases h2 k hk with h|h
  ·exact .inl (hFG k h)
  ·exact .inr h
 ·rcases hk with h|h
  ·exact QG (sJ k h) hb.size
  ·exact h.2
 ·have hM':=hM.move (G':=Gx G w w') (w':=w') (fun k hk=>.inl hk) (ZZ.below F hb) (fun k hk=>hb.block k (by
   rcases hk with rfl|hk
   ·exact sJ _ hM.gB
   ·exact hlt k hk))
  have hno:∀k,G k->¬F k->¬F' k:=fun k hg hf hf'=>by
   rcases h2 k hf' with h|h
   ·exact hf h
   ·have:=sJ k hg;omega
  obtain⟨us,ho,he⟩:=hM'.told;refine {hM' with nB:=hno _ hM.gB hM.nB,now:=?_,told:=⟨us,ho,he.keep (ZZ.refl _ _) h1⟩,Xb:=fun k hk=>⟨hno k (hM.Xb k hk).2 (hM.Xb k hk).1,(hM'.Xb k hk).2⟩,Ya:=fun k hk=>⟨hno k (hM.Ya k hk).2 (hM.Ya k hk).1,(hM'.Ya k hk).2⟩};have hn:=hM'.now;have hn0:=hM.now;cases ho:S.now with
  | none=>rw[ho]at hn;exact hn
  | some p=>
   rw[ho]at hn hn0;obtain⟨C,tv,g1,g2,g3,g4,g5,g6⟩:=hn;obtain⟨C0,tv0,k1,k2,k3,k4,k5,k6⟩:=hn0;have e1:C0=C:=by
    rw[k1]at g1;simpa using g1
   subst e1;have e2:tv0=tv:=by
    have:=k4.below hb k4.lt;unfold QD at this g4;rw[this]at g4;simp at g4;exact g4
   subst e2;exact⟨C0,tv0,g1,hno _ k3 k2,g3,g4,g5,fun k hk=>⟨hno k (k6 k hk).2.1 (k6 k hk).1,(g6 k hk).2⟩⟩
theorem Vz.store{F G:Nat->Prop}{w:World}{B:Nat}{f:Nat->Value}{S S':SS}(hFG:∀k,F k->G k)(sJ:∀k,G k->k<w.heap.size)(hM:Vz F G w B f S)(i:Nat)(v:Value)
  (h1:47≠i) (h2:56≠i) (h3:57≠i) (hS:S'.now=S.now/\S'.told=S.told/\S'.XK=S.XK):Vz F G (w.setCell ⟨B,i,none⟩ v) B (JQ f i v) S':=by
 have hne:=hM.U4;have hs:∀k,k≠B->(w.setCell ⟨B,i,none⟩ v).heap[k]? =w.heap[k]?:=fun k hk=>QP _ _ _ _ hk
 obtain⟨us,ho,he⟩:=hM.told;obtain⟨e1,e2,e3⟩:=hS;exact {
  blk:=hM.blk.set i v
  nB:=hM.nB
  gB:=hM.gB
  now:=by
   rw[Zg h1,Zg h3,e1];exact QvM
  told:=by
   rw[Zg h2,e2];exact⟨us,ho.moved fun k hk=>hs k (hne k (.inl hk)),he.keep (ZZ.setCell hM.nB _) (fun _ h=>h)⟩
  Xb:=by rw[Zg h2];exact hM.Xb
  XK:=by
   rw[Zg h3,e3];exact hM.XK.moved fun k hk=>hs k (hne k (.inr (.inl hk)))
  Ya:=by rw[Zg h3];exact hM.Ya}
theorem Vz.bg{F G G':Nat->Prop}{w w4:World}{B:Nat}{f:Nat->Value}{S S':SS}{v4:Value}{us4:List V2}(hM:Vz F G w B f S)(fF:∀k,G k->G' k)(hK:ZZ F w w4)
  (hB:K9 w4 B f) (hs:∀k,k≠B->Ob w f k->(f 56).ownBlock≠some k->w4.heap[k]? =w.heap[k]?) (ho:ZB 45 0 w4 v4 us4) (he:xk F w4 us4 S'.told)
  (hv:∀k,v4.ownBlock=some k->¬F k/\G' k) (hS:S'.now=S.now/\S'.XK=S.XK):Vz F G' (w4.setCell ⟨B,56,none⟩ v4) B (JQ f 56 v4) S':=by
 obtain⟨us,ho0,he0⟩:=hM.told;have hne:=hM.U4;have hsc:∀k,k≠B->(w4.setCell ⟨B,56,none⟩ v4).heap[k]? =w4.heap[k]?:=fun k hk=>QP _ _ _ _ hk
 have hev:∀{C:Nat} {cs:Array Value} {e:TypeId},QD w C cs e->45≠e->(f 56).ownBlock≠some C:=fun hC he e=>ho0.ZA hC he e.symm
 have hown:∀{v:Value} {xs:List Int},Own 3 0 w v xs->∀k,v.ownBlock=some k->(f 56).ownBlock≠some k:=fun {v xs} hv k hk e=>by
  rcases hv.2 with⟨rfl,_⟩|⟨g,cap,cur,rfl,hb',hgg,rest⟩
  ·simp[Value.ownBlock]at hk
  ·simp only[Value.ownBlock,Qv]at hk
   exact Qvp
 refine {blk:=hB.set 56 v4,nB:=hM.nB,gB:=fF _ hM.gB,now:=?_,told:=⟨us4,?_,?_⟩,Xb:=?_,XK:=?_,Ya:=?_}
 ·rw[Zg (by decide),Zg (by decide),hS.1]
  have hn:=hM.now;cases hno:S.now with
  | none=>rw[hno]at hn;exact hn
  | some q=>
   obtain⟨c,ty⟩:=q;rw[hno]at hn;obtain⟨C,tv,h1,h2,h3,h4,h5,h6⟩:=hn;have mC:Ob w f C:=.inr (.inr ⟨C,h1,.inl rfl⟩);have mR:∀k,tv.ownBlock=some k->Ob w f k:=fun k hk=>.inr (.inr ⟨C,h1,.inr ⟨tv,h4.cell 5,hk⟩⟩)
   refine⟨C,tv,h1,h2,fF _ h3,QD.moved h4 ?_,h5.moved fun k hk=>?_,fun k hk=>⟨(h6 k hk).1,fF _ (h6 k hk).2.1,(h6 k hk).2.2⟩⟩
   ·rw[hsc C (hne C mC)];exact hs C (hne C mC) mC (hev h4 (by decide))
   ·rw[hsc k (hne k (mR k hk))];exact hs k (hne k (mR k hk)) (mR k hk) (hown h5 k hk)
 ·rw[YK]
  exact QAb
 ·exact he.keep (ZZ.setCell hM.nB _) (fun _ h=>h)
 ·rw[YK];exact hv
 ·rw[Zg (by decide),hS.2]
  exact hM.XK.moved fun k hk=>by
   have mR:Ob w f k:=.inr (.inl hk);rw[hsc k (hne k mR)];exact hs k (hne k mR) mR (hown hM.XK k hk)
 ·rw[Zg (by decide)];exact fun k hk=>⟨(hM.Ya k hk).1,fF _ (hM.Ya k hk).2⟩
def Same(F:Nat->Prop)(w w':World):Prop:=∀k,F k->w'.heap[k]? =w.heap[k]?
theorem Same.refl(F:Nat->Prop)(w:World):Same F w w:=fun _ _=>rfl
theorem Same.trans{F:Nat->Prop}{a b c:World}(h:Same F a b)(g:Same F b c):Same F a c:=fun k hk=>(g k hk).trans (h k hk)
theorem Same.imp{F F':Nat->Prop}{a b:World}(h:Same F a b)(hi:∀k,F' k->F k):Same F' a b:=fun k hk=>h k (hi k hk)
theorem Same.YZ{F:Nat->Prop}{w w':World}(h:Same F w w'):ZZ F w w':=fun p v hp hc=>by
 have:=h p.block hp;unfold World.cell? at *;rw[this];exact hc
theorem Same.blk{F:Nat->Prop}{w w':World}(h:Same F w w'):KI F w w':=fun B cs e hB hb=>QD.moved hb (h B hB)
theorem Same.setCell{F:Nat->Prop}{w:World}{B i:Nat}(hB:¬F B)(v:Value):Same F w (w.setCell ⟨B,i,none⟩ v):=fun k hk=>QP _ _ _ _ (fun e=>hB (by have e2:k=B:=e;rw[<-e2];exact hk))
theorem Same.below{F:Nat->Prop}{w w':World}(hF:∀k,F k->k<w.heap.size)(hb:Below w.heap.size w w'):Same F w w':=fun k hk=>hb.block k (hF k hk)
def Fx(F:Nat->Prop)(w w':World):Nat->Prop:=fun k=>F k\/(w.heap.size<=k/\k<w'.heap.size)
theorem Fx.old{F:Nat->Prop}{w w':World}:∀k,F k->Fx F w w' k:=fun _ h=>.inl h
theorem Fx.new{F:Nat->Prop}{w w':World}:∀k,w.heap.size<=k/\k<w'.heap.size->Fx F w w' k:=fun _ h=>.inr h
structure VPs (F G:Nat->Prop) (w:World) (B:Nat) (S:SS) (w':World):Prop where
 step:Step G w w'
 same:Same F w w'
 hold:∃F',(∀k,F k->F' k)/\Zw F' (Gx G w w') w' B S
def VP(F G:Nat->Prop)(w:World)(B:Nat)(S:SS)(v:Value)(e:Ending)(w':World):Prop:=e=.returned v/\VPs F G w B S w'
def XU:Value:=.tuple #[]
structure At (F0 G0:Nat->Prop) (w0:World) (F:Nat->Prop) (w:World) (B:Nat) (f:Nat->Value) (S:SS):Prop where
 step:Step G0 w0 w
 same:Same F0 w0 w
 sub:∀k,F0 k->F k
 hf:HF F (Gx G0 w0 w) w B f S
theorem At.begin{F G:Nat->Prop}{w:World}{B:Nat}{f:Nat->Value}{S:SS}(h:HF F G w B f S):At F G w F w B f S:=
 ⟨Step.refl _ _,Same.refl _ _,fun _ h=>h,by rw[Gx.refl];exact h⟩
theorem At.done{F0 G0 F:Nat->Prop}{w0 w:World}{B:Nat}{f:Nat->Value}{S:SS}(h:At F0 G0 w0 F w B f S):VPs F0 G0 w0 B S w:=⟨h.step,h.same,F,h.sub,f,h.hf⟩
theorem At.Sy{F0 G0 F:Nat->Prop}{w0 w:World}{B:Nat}{f:Nat->Value}{S:SS}(h:At F0 G0 w0 F w B f S):∀k,F k->k<w.heap.size:=fun k hk=>h.hf.lt k (h.hf.fg k hk)
theorem At.Tt{F0 G0 F F':Nat->Prop}{w0 w w':World}{B:Nat}{f:Nat->Value}{S:SS}(h:At F0 G0 w0 F w B f S)(hb:Below w.heap.size w w')(h1:∀k,F k->F' k)(h2:∀k,F' k->Fx F w w' k):At F0 G0 w0 F' w' B f S:=by
 refine⟨h.step.trans (Step.of_below _ hb),h.same.trans (Same.below (fun k hk=>h.Sy k (h.sub k hk)) hb),fun k hk=>h1 k (h.sub k hk),?_⟩;have:=h.hf.below hb h1 h2
 rwa[Gx.trans h.step.size hb.size]at this
theorem At.below{F0 G0 F:Nat->Prop}{w0 w w':World}{B:Nat}{f:Nat->Value}{S:SS}(h:At F0 G0 w0 F w B f S)(hb:Below w.heap.size w w'):At F0 G0 w0 (Fx F w w') w' B f S:=h.Tt hb Fx.old (fun _ h=>h)
theorem At.Xw{F0 G0 F:Nat->Prop}{w0 w w':World}{B:Nat}{f:Nat->Value}{S:SS}(h:At F0 G0 w0 F w B f S)(hb:Below w.heap.size w w'):At F0 G0 w0 F w' B f S:=h.Tt hb (fun _ h=>h) Fx.old
theorem At.drew{F0 G0 F:Nat->Prop}{w0 w:World}{B:Nat}{f:Nat->Value}{S:SS}(h:At F0 G0 w0 F w B f S):At F0 G0 w0 F w.drew B f S:=h.Xw (Qx _ w).drew
theorem At.call{F0 G0 F:Nat->Prop}{w0 w w':World}{B:Nat}{f:Nat->Value}{S S':SS}(h:At F0 G0 w0 F w B f S)(hv:VPs F (Gx G0 w0 w) w B S' w'):∃F' f',At F0 G0 w0 F' w' B f' S'/\(∀k,F k->F' k)/\Same F w w':=by
 obtain⟨F',hF',f',hf'⟩:=hv.hold;rw[Gx.trans h.step.size hv.step.size]at hf';exact⟨F',f',⟨h.step.trans hv.step,h.same.trans (hv.same.imp h.sub),fun k hk=>hF' k (h.sub k hk),hf'⟩,hF',hv.same⟩
theorem VPs.get{F G:Nat->Prop}{w w':World}{B:Nat}{S:SS}(hv:VPs F G w B S w'):∃F' f',At F G w F' w' B f' S/\(∀k,F k->F' k)/\Same F w w':=by
 obtain⟨F',hF',f',hf'⟩:=hv.hold;exact⟨F',f',⟨hv.step,hv.same,hF',hf'⟩,hF',hv.same⟩
theorem Gx.setCell(G:Nat->Prop)(w0 w:World)(a:Addr)(v:Value):Gx G w0 (w.setCell a v)=Gx G w0 w:=by
 unfold Gx;rw[size_setCell]
theorem Vo.setCell{F:Nat->Prop}{w:World}{B i:Nat}{v:Value}{f:Nat->Value}{S:SS}(hB:¬F B)(h:Vo F w f S):Vo F (w.setCell ⟨B,i,none⟩ v) f S:=
 h.keep (ZZ.setCell hB v) (KI.setCell hB v) (fun _ h=>h)
theorem At.st{F0 G0 F:Nat->Prop}{w0 w:World}{B:Nat}{f:Nat->Value}{S S':SS}(h:At F0 G0 w0 F w B f S)(i:Nat)(v:Value)(hd:Vo F w (JQ f i v) S')
  (h1:47≠i) (h2:56≠i) (h3:57≠i) (hS:S'.now=S.now/\S'.told=S.told/\S'.XK=S.XK) (hB:∀k,F0 k->k≠B) (hGB:Gx G0 w0 w B):At F0 G0 w0 F (w.setCell ⟨B,i,none⟩ v) B (JQ f i v) S':=by
 have hsz:(w.setCell ⟨B,i,none⟩ v).heap.size=w.heap.size:=size_setCell _ _ _;refine⟨⟨h.step.os,h.step.tape,h.step.output,by rw[hsz];exact h.step.size,fun k hk hn=>?_⟩,fun k hk=>?_,h.sub,⟨?_,?_,hd.setCell h.hf.m.nB,?_⟩⟩
 ·rw[QP _ _ _ _ (fun e=>?_)]
  ·exact h.step.block k hk hn
  ·subst e
   rcases hGB with hg|hg
   ·exact hn hg
   ·omega
 ·rw[QP _ _ _ _ (hB k hk)];exact h.same k hk
 ·rw[Gx.setCell];exact h.hf.fg
 ·rw[Gx.setCell,hsz];exact h.hf.lt
 ·rw[Gx.setCell];exact h.hf.m.store h.hf.fg h.hf.lt i v h1 h2 h3 hS
theorem At.lH{F0 G0 F:Nat->Prop}{w0 w:World}{B:Nat}{f:Nat->Value}{S:SS}(h:At F0 G0 w0 F w B f S):∀k,F0 k->k≠B:=fun k hk e=>h.hf.m.nB (e▸h.sub k hk)
theorem At.store{F0 G0 F:Nat->Prop}{w0 w:World}{B:Nat}{f:Nat->Value}{S S':SS}(h:At F0 G0 w0 F w B f S)(i:Nat)(v:Value)(hd:Vo F w (JQ f i v) S')
  (h1:47≠i:=by decide) (h2:56≠i:=by decide) (h3:57≠i:=by decide) (hS:S'.now=S.now/\S'.told=S.told/\S'.XK=S.XK:=by exact⟨rfl,rfl,rfl⟩):At F0 G0 w0 F (w.setCell ⟨B,i,none⟩ v) B (JQ f i v) S':=
 h.st i v hd h1 h2 h3 hS h.lH h.hf.m.gB
theorem At.told{F0 G0 F:Nat->Prop}{w0 w w1 w4:World}{B:Nat}{f:Nat->Value}{S S':SS}{v4:Value}{us4:List V2}(h:At F0 G0 w0 F w B f S)(hb:Below w.heap.size w w1)(hg:w1.grownBy w4 (f 56).ownBlock)
  (ho:ZB 45 0 w4 v4 us4) (hat:v4.ownBlock=(f 56).ownBlock\/v4.ownBlock=some w1.heap.size) (he:xk F w us4 S'.told) (hd:Vo F w (JQ f 56 v4) S') (hS:S'.now=S.now/\S'.XK=S.XK):
  At F0 G0 w0 F (w4.setCell ⟨B,56,none⟩ v4) B (JQ f 56 v4) S':=by
 have hM:=h.hf.m;have hlt:=hM.Bw h.hf.lt;have hsz:w.heap.size<=w4.heap.size:=QL hb.size hg.size;have hsc:(w4.setCell ⟨B,56,none⟩ v4).heap.size=w4.heap.size:=size_setCell _ _ _;have hblk:∀k,k<w.heap.size->(f 56).ownBlock≠some k->w4.heap[k]? =w.heap[k]?:=fun k hk hn=>by
  exact Qvw
 have hF:∀k,F k->w4.heap[k]? =w.heap[k]?:=fun k hk=>hblk k (h.Sy k hk) (fun e=>(hM.Xb k e).1 hk)
 have hsame:Same F w w4:=hF;have Mx:∀k,Gx G0 w0 w k->Gx G0 w0 w4 k:=fun k hk=>by
  rcases hk with hk|hk
  ·exact .inl hk
  ·exact .inr ⟨hk.1,by omega⟩
 obtain⟨us,ho0,he0⟩:=hM.told;have fI:w4.heap[B]? =w.heap[B]?:=hblk B (h.hf.lt B hM.gB) (ho0.ZA hM.blk (by decide)).symm;refine⟨⟨hg.os.trans (hb.os.trans h.step.os),hg.tape.trans (hb.tape.trans h.step.tape),hg.output.trans (hb.output.trans h.step.output),by rw[hsc];exact QL h.step.size hsz,fun k hk hn=>?_⟩,fun k hk=>?_,h.sub,⟨?_,?_,?_,?_⟩⟩
 ·have hkB:k≠B:=fun e=>by
   subst e;rcases hM.gB with hg|hg
   ·exact hn hg
   ·omega
  rw[QP _ _ _ _ hkB,hblk k (QG hk h.step.size) (fun e=>by
   rcases(hM.Xb k e).2 with hg|hg
   ·exact hn hg
   ·omega)]
  exact h.step.block k hk hn
 ·rw[QP _ _ _ _ (h.lH k hk),hF k (h.sub k hk)];exact h.same k hk
 ·rw[Gx.setCell];exact fun k hk=>Mx k (h.hf.fg k hk)
 ·rw[Gx.setCell,hsc]
  exact QAH
 ·exact(hd.keep hsame.YZ hsame.blk (fun _ h=>h)).setCell hM.nB
 ·rw[Gx.setCell]
  refine hM.bg Mx hsame.YZ (QD.moved hM.blk fI) (fun k _ hm hne=>hblk k (hlt k hm) hne) ho (he.keep hsame.YZ (fun _ h=>h)) (fun k hk=>?_) hS;rcases hat with e|e
  ·rw[e]at hk
   exact⟨(hM.Xb k hk).1,Mx k (hM.Xb k hk).2⟩
  ·rw[e]at hk
   simp only[Qv]at hk;subst hk;have:=ho.lt _ e;have h1:=hb.size;have h2:=h.step.size;exact⟨fun hf=>by have:=h.Sy _ hf;omega,.inr ⟨by omega,this⟩⟩
theorem CE:(Tryz.prog.info? 45).map (fun i=>(i.zero,i.size,i.bytes))=some (some (.agg #[.int .i64 0,.slice none 0 0]),2,32):=by kernel_rfl
theorem XH.one{F:Nat->Prop}{w:World}{v:Value}{xs:List Int}(h:XH F w v xs):v.oneCell'=true:=by
 obtain⟨a,n,c,rfl⟩:=h.form;rfl
theorem yu(F G:Nat->Prop)(B:Nat)(S:SS)(k:Int)(lv:Value)(l:List Int)(w:World)(h:Zw F G w B S)(hl:XH F w lv l)(hn:S.told.length<=4398046511103):
  Calls Tryz.prog 82 #[.pointer (some ⟨B,0,none⟩),.int .i64 k,lv] w (VP F G w B (S.tell k l) XU):=by
 obtain⟨f,hf⟩:=h;have hM:=hf.m;obtain⟨us,hO,hE⟩:=hM.told;obtain⟨a,n,c,hv⟩:=hO.form;have c56:=hM.blk.cell (i:=56) (by omega);rw[hv]at c56 hO;obtain⟨la,ln,lc,rfl⟩:=hl.form;have HF0:=QQ hf;have HO:=QQ hO;have HE:=QQ hE;have HL:=QQ hl;have HV:=QQ hv;have MZ:us.length<=4398046511103:=by rw[hE.1];exact hn
 have DN:=QQ MZ;clear hM hO hE hv hl MZ hn hf;go_enter Tryz.func82,Tryz.ntmps82
 go_wp2_with (at_builtin;refine oV (T:=45) (ST:=25) Tryz.underlying25 CE rfl (by decide) rfl _ _ rfl 0 _ us [⟨.int .i64 k,.slice la ln lc⟩] ⟨w.heap.size,0,none⟩ 1 1 rfl rfl (HO.out.alloc _) (EL (QD.new w #[.int .i64 k,.slice la ln lc] 45)) (fun u hu=>by simp at hu;subst hu;exact⟨rfl,rfl⟩) rfl (by have:=DN.out;simp;omega) (by simp) (by decide) ?_;intro v4 w4 o4 hg4 ru;have hB4:K9 w4 B _:=QD.grown (QD.alloc HF0.out.m.blk _) hg4 (HO.out.ZA HF0.out.m.blk (by decide));obtain⟨c4,z4⟩:w4.cell? ⟨B,56,none⟩=some (.slice a n c)/\w4.frozen? ⟨B,56,none⟩=false:=⟨by rw[hB4.cell (by omega),HV.out],hB4.free 56⟩;clear hB4;obtain⟨a4,n4,c4,rfl⟩:=o4.form)
 go_end0
 have hf:=HF0.out;have hV:=HV.out;exact⟨rfl,((At.begin hf).told (S':=S.tell k l) (QC w _) (by rw[hV];exact hg4) o4 (by rw[hV];exact ru) (HE.out.snoc (k:=k) HL.out) {hf.d with} ⟨rfl,rfl⟩).done⟩
theorem Kv(F G:Nat->Prop)(B:Nat)(S:SS)(w:World)(h:Zw F G w B S)(hn:S.told.length<=4398046511103):
  Calls Tryz.prog 87 #[.pointer (some ⟨B,0,none⟩)] w (VP F G w B S.Xa XU):=by
 have HT:=QQ (yu F G B S 1 (.slice none 0 0) [] w h (XH.nil _ _) hn);clear h hn;go_enter Tryz.func87,Tryz.ntmps87
 go_wp2_with fail
 refine HT.out.mono ?_;rintro e w1 ⟨rfl,hv⟩;exact Qvz
def Iw(base:Nat)(L:List Int)(w:World)(e:Ending)(w':World):Prop:=∃p T,e=.returned (.pointer p)/\Ym (fun k=>base<=k) w' (.pointer p) T/\T.Yt=L/\Below w.heap.size w w'
theorem ve(base:Nat)(w:World)(hbs:base<=w.heap.size)(b:Nat)(lv rv:Value)(l r:Tr)(c s k:Int)(hb:b=w.heap.size)(hl:Ym (fun k=>base<=k) w lv l)(hr:Ym (fun k=>base<=k) w rv r)(hs:s=((Tr.node l c r).Yt.length:Int))(hk:k=((Tr.node l c r).Wj:Int)):
  Ym (fun k=>base<=k) (w.alloc (.cells #[lv,rv,.int .i64 c,.int .i64 s,.int .i64 k] 209)) (.pointer (some ⟨b,0,none⟩)) (.node l c r):=by
 subst hb hs hk;have h:=QD.new w #[lv,rv,.int .i64 c,.int .i64 ((Tr.node l c r).Yt.length:Int),.int .i64 ((Tr.node l c r).Wj:Int)] 209;have hb:=QC w (.cells #[lv,rv,.int .i64 c,.int .i64 ((Tr.node l c r).Yt.length:Int),.int .i64 ((Tr.node l c r).Wj:Int)] 209);exact⟨w.heap.size,lv,rv,hbs,rfl,h.cell 0,h.cell 1,h.cell 2,h.cell 3,h.cell 4,hl.keep (ZZ.below _ hb) (fun _ h=>h),hr.keep (ZZ.below _ hb) (fun _ h=>h)⟩
theorem Ym.Gl{F:Nat->Prop}{w:World}{R:Nat}{u x:Value}{e:TypeId}(hR:QD w R #[u] e):∀{t:Tr} {v:Value},Ym F w v t->Ym F (w.setCell ⟨R,0,none⟩ x) v t
 | .nil,_,h=>h
 | .node l c r,_,⟨b,lv,rv,hb,h0,h1,h2,h3,h4,h5,h6,h7⟩=>by
  have hne:b≠R:=by
   rintro rfl;have:=hR.cell 1;rw[this]at h2;simp at h2
  exact⟨b,lv,rv,hb,h0,Qa h1 hne,Qa h2 hne,Qa h3 hne,Qa h4 hne,Qa h5 hne,Ym.Gl hR h6,Ym.Gl hR h7⟩
def QQK(L:List Int)(er:Int)(w:World)(e:Ending)(w':World):Prop:=∃p,e=.returned (.tuple #[.agg #[.pointer p],.int .i64 er])/\Ul (fun k=>w.heap.size<=k) w' (.pointer p) L/\Below w.heap.size w w'
theorem Gr(base:Nat)(lp rp:Option Addr)(l r:Tr)(c:Int)(w:World)(hbs:base<=w.heap.size)(hl:Ym (fun k=>base<=k) w (.pointer lp) l)(hr:Ym (fun k=>base<=k) w (.pointer rp) r)(hsz:l.Yt.length+r.Yt.length<=100000):
  Calls Tryz.prog 244 #[.pointer lp,.int .i64 c,.pointer rp] w (Iw base (l.Yt++c::r.Yt) w):=by
 have h1:=zC _ _ _ hl.tree;have h2:=zC _ _ _ hr.tree;have h3:=AQ _ _ _ hl.tree;have h4:=AQ _ _ _ hr.tree;have t1:=l.yB;have t2:=r.yB;have HL:=QQ hl;have HR:=QQ hr;have hsz2:((Tr.node l c r).Yt.length:Int)=(l.Yt.length:Int)+1+(r.Yt.length:Int):=by simp[Tr.Yt];omega
 have QZt:((Tr.node l c r).Wj:Int)=1+max (l.Wj:Int) (r.Wj:Int):=by simp only[Tr.Wj];omega
 have HS:=QQ hsz2;have HT:=QQ QZt;obtain⟨sl,hsl⟩:∃n,l.Yt.length=n:=⟨_,rfl⟩;obtain⟨sr,hsr⟩:∃n,r.Yt.length=n:=⟨_,rfl⟩;obtain⟨kl,hkl⟩:∃n,l.Wj=n:=⟨_,rfl⟩;obtain⟨kr,hkr⟩:∃n,r.Wj=n:=⟨_,rfl⟩;rw[hsl]at h1 HS hsz t1;rw[hsr]at h2 HS hsz t2;rw[hkl]at h3 HT t1;rw[hkr]at h4 HT t2;have hm:kl<kr\/kr<=kl:=by omega
 clear hl hr hsz2 QZt hsl hsr hkl hkr;rcases hm with hm|hm
 ·have i1:(kl:Int)<(kr:Int):=by omega
  have i2:max (kl:Int) (kr:Int)=(kr:Int):=by omega
  exact Quk
 ·have i1:(kr:Int)<=(kl:Int):=by omega
  have i2:max (kl:Int) (kr:Int)=(kl:Int):=by omega
  exact Quk
def FR(base n:Nat):Prop:=∀(a:Option Addr) (m c:Nat) (xs:List Int) (w:World),m<=n->m<=10000->base<=w.heap.size->Sl w (.slice a m c) xs->Calls Tryz.prog 221 #[.slice a m c] w (Iw base xs w)
theorem BN(base:Nat):∀n,FR base n:=by
 intro n;induction n with
 | zero=>
  intro a m c xs w hm hm2 hbs hs;obtain rfl:m=0:=by omega
  obtain rfl:xs=[]:=QH hs.get.1;exact QAq
 | succ n ih=>
  intro a m c xs w hm hm2 hbs hs;obtain⟨h1,h2,h3,h4,h5⟩:=hs.get;rcases Zx m with rfl|hpos
  ·obtain rfl:xs=[]:=QH h1
   exact QAq
  ·obtain⟨k,hk⟩:∃k,m / 2=k:=⟨_,rfl⟩
   have hkm:k<m:=by omega
   obtain⟨b,o,rfl,-⟩:=h4.at (k:=0) (by omega);have e1:=h4.QYQ (k:=k) (by omega);have QXC:=Ww (some ⟨b,o,none⟩) m c k (by omega);have fU:=xH (some ⟨b,o,none⟩) m c (k+1) (by omega);have hIe:=h4.TT (c:=c) (k+1) (by omega) (by omega);have HI1:=QQ (show Sl w (.slice (some ⟨b,o,none⟩) k c) (xs.take k)from⟨_,_,_,rfl,by rw[QT];omega,by omega,h3,h4.take k,fun e=>by cases e⟩);have HI2:=QQ (show Sl w (.slice (VD (some ⟨b,o,none⟩) c (k+1)) (m-(k+1)) (c-(k+1))) (xs.drop (k+1))from⟨_,_,_,rfl,by rw[Q7];omega,by omega,by omega,hIe,fun e=>by have:=KO e;cases this⟩);have i0:(m:Int).tdiv 2=(k:Int):=by rw[<-hk];rfl
   have i1:((m:Int)==0)=false:=by simp;omega
   have i2:(k:Int)<(m:Int):=by omega
   push_cast at fU
   have iw:IntKind.i64.wrap ((k:Int)+1)=(k:Int)+1:=by rw[Ze];omega
   unfold FR at ih;have IHH:=QQ ih;have Od:=QQ h1;have HML:=QQ (Sq (xs:=xs) (k:=k) (by omega));clear h1 h4 h5 hs hIe ih hk;go_enter Tryz.func221,Tryz.ntmps221
   go_upto_region 4 with fail
   go_region_held3 (fun w'=>w'.cell? ⟨b,o+k,none⟩=some (.int .i64 (ix xs k))/\Below w.heap.size w w') (first|exact⟨e1,(Qx _ _).drew⟩|assumption|exact CB ‹_› ‹_›)
    (first|(go_at_call 221;((with_reducible refine(IHH.out (some ⟨b,o,none⟩) k c (xs.take k) _ (by omega) (by omega) (QL hbs (kb1 ‹_›).size) (HI1.out.below (kb1 ‹_›))).mono ?_);rintro e w4 ⟨p4,T4,rfl,hT4,hL4,hb4⟩;have bY:=CB ‹_› hb4))|(go_at_call 221;((with_reducible refine(IHH.out _ (m-(k+1)) _ (xs.drop (k+1)) _ (by omega) (by omega) (QL hbs (kb1 ‹_›).size) (HI2.out.below (kb1 ‹_›))).mono ?_);rintro e w5 ⟨p5,T5,rfl,hT5,hL5,hb5⟩;have hS5:=CB ‹_› hb5))|(go_at_call 244;((with_reducible refine(Gr base p4 p5 T4 T5 (ix xs k) _ (QL hbs (kb1 ‹_›).size) (hT4.keep (ZZ.below _ hb5) (fun _ h=>h)) hT5 (by rw[hL4,hL5,QT,Q7,Od.out];omega)).mono ?_);rintro e w6 ⟨p6,T6,rfl,hT6,hL6,hb6⟩;have fA:=CB ‹_› hb6)))
   all_goals
    go_wp2;go_ret;exact⟨p6,T6,rfl,hT6,by rw[hL6,hL4,hL5];exact HML.out,kb1 fA⟩
theorem Ev(base:Nat)(a:Option Addr)(m c:Nat)(xs:List Int)(w:World)(hbs:base<=w.heap.size)(hm:m<=10000)(hs:Sl w (.slice a m c) xs):Calls Tryz.prog 221 #[.slice a m c] w (Iw base xs w):=
 BN base m a m c xs w (QU _) hm hbs hs
theorem Rz(a:Option Addr)(m c:Nat)(xs:List Int)(w:World)(hm:m<=4096)(hs:Sl w (.slice a m c) xs):
  Calls Tryz.prog 190 #[.slice a m c] w (QQK xs 0 w):=by
 have hR:=QD.new w #[.pointer none] 104;have hb:=QC w (.cells #[.pointer none] 104);have hz:w.heap.size<=(w.alloc (.cells #[.pointer none] 104)).heap.size:=by simp
 have HB:=QQ (Ev w.heap.size a m c xs _ (by simp) (by omega) (hs.below hb));clear hs;go_enter Tryz.func190,Tryz.ntmps190
 go_upto_region 1 with fail
 generalize(w.alloc (.cells #[.pointer none] 104))=w1 at *;go_wp2_with fail
 refine HB.out.mono ?_;rintro e w2 ⟨p,T,rfl,hT,hL,hb2⟩;have hR2:=hR.below hb2 hR.lt;obtain⟨y0,y1⟩:=hR2.one;have HT:=QQ (hT.Gl hR2 (x:=.pointer p));have hacc:=QW hb hz hb2;clear hT hR;go_wp2;have z0:=(hR2.set 0 (.pointer p)).one.1;refine QV (v:=.tuple #[.agg #[.pointer p],.int .i64 0]) (by simp[results,Tryz.results190,go_sem,z0]) rfl ?_;exact⟨p,rfl,⟨T,HT.out,hL⟩,hacc.setCell (p:=⟨w.heap.size,0,none⟩) (QU _) _⟩
end Go.Proofs.YtmdcencmiopmmaaGreat
