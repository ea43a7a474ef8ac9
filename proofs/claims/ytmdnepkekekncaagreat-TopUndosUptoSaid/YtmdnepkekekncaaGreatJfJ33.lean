/- joined, no condition of its own. -/
import Derived.Test.YtmdnepkekekncaaGreatJfJ30
import Derived.Test.YtmdnepkekekncaaGreatJfJ32
set_option linter.unusedVariables false
set_option linter.unusedSimpArgs false
set_option maxRecDepth 100000
set_option maxHeartbeats 12000000
namespace Go.Proofs.YtmdnepkekekncaaGreat
open Go.RowKit
def Xv(F:Nat->Prop)(w w':World):Prop:=∀p v,F p.block->w.cell? p=some v->w'.cell? p=some v
theorem Xv.refl(F:Nat->Prop)(w:World):Xv F w w:=fun _ _ _ h=>h
theorem Xv.trans{F:Nat->Prop}{a b c:World}(h:Xv F a b)(g:Xv F b c):Xv F a c:=fun p v hp hc=>g p v hp (h p v hp hc)
theorem Xv.below(F:Nat->Prop){w w':World}(hb:Below w.heap.size w w'):Xv F w w':=fun p v _ hc=>Zd hb p v hc
theorem Xv.setCell{F:Nat->Prop}{w:World}{a:Addr}(ha:¬F a.block)(u:Value):Xv F w (w.setCell a u):=fun p v hp hc=>Zr hc (fun e=>ha (e▸hp))
def Ky(F:Nat->Prop)(w:World):Value->Tr->Prop
 | v,.nil=>v=.pointer none
 | v,.node l c r=>∃b lv rv,F b/\v=.pointer (some ⟨b,0,none⟩)/\w.cell? ⟨b,0,none⟩=some lv/\w.cell? ⟨b,1,none⟩=some rv/\w.cell? ⟨b,2,none⟩=some (.int .i64 c)/\
   w.cell? ⟨b,3,none⟩=some (.int .i64 ((Tr.node l c r).KA.length:Int))/\w.cell? ⟨b,4,none⟩=some (.int .i64 ((Tr.node l c r).xZ:Int))/\Ky F w lv l/\Ky F w rv r
theorem Ky.tree{F:Nat->Prop}{w:World}:∀{t:Tr} {v:Value},Ky F w v t->Uh w v t
 | .nil,_,h=>h
 | .node l c r,_,⟨b,lv,rv,_,h0,h1,h2,h3,h4,h5,h6,h7⟩=>⟨b,lv,rv,h0,h1,h2,h3,h4,h5,h6.tree,h7.tree⟩
theorem Ky.keep{F G:Nat->Prop}{w w':World}(hc:Xv F w w')(hi:∀k,F k->G k):∀{t:Tr} {v:Value},Ky F w v t->Ky G w' v t
 | .nil,_,h=>h
 | .node l c r,_,⟨b,lv,rv,hb,h0,h1,h2,h3,h4,h5,h6,h7⟩=>⟨b,lv,rv,hi b hb,h0,hc _ _ hb h1,hc _ _ hb h2,hc _ _ hb h3,hc _ _ hb h4,hc _ _ hb h5,h6.keep hc hi,h7.keep hc hi⟩
theorem Ky.lt{F:Nat->Prop}{w:World}:∀{t:Tr} {v:Value},Ky F w v t->Ky (fun k=>F k/\k<w.heap.size) w v t
 | .nil,_,h=>h
 | .node l c r,_,⟨b,lv,rv,hb,h0,h1,h2,h3,h4,h5,h6,h7⟩=>⟨b,lv,rv,⟨hb,Xb h1⟩,h0,h1,h2,h3,h4,h5,h6.lt,h7.lt⟩
def Wd(F:Nat->Prop)(w:World)(v:Value)(l:List Int):Prop:=∃T,Ky F w v T/\T.KA=l
theorem Wd.keep{F G:Nat->Prop}{w w':World}{v:Value}{l:List Int}(h:Wd F w v l)(hc:Xv F w w')(hi:∀k,F k->G k):Wd G w' v l:=by
 obtain⟨T,h1,h2⟩:=h;exact⟨T,h1.keep hc hi,h2⟩
theorem Wd.lt{F:Nat->Prop}{w:World}{v:Value}{l:List Int}(h:Wd F w v l):Wd (fun k=>F k/\k<w.heap.size) w v l:=by
 obtain⟨T,h1,h2⟩:=h;exact⟨T,h1.lt,h2⟩
theorem Wd.nil(F:Nat->Prop)(w:World):Wd F w (.pointer none) []:=⟨.nil,rfl,rfl⟩
theorem Wd.ptr{F:Nat->Prop}{w:World}{v:Value}{l:List Int}(h:Wd F w v l):∃p,v=.pointer p:=by
 obtain⟨T,h1,h2⟩:=h;exact h1.tree.form
def nK(F:Nat->Prop)(w:World)(v:Value)(es:List (List Int×Int)):Prop:=
 ∃us:List V2,kP F w v us/\us.length=es.length/\∀i (h:i<es.length),Wd F w (xG us i).a es[i].1/\(xG us i).b=.int .i64 es[i].2
theorem nK.keep{F G:Nat->Prop}{w w':World}{v:Value}{es:List (List Int×Int)}(h:nK F w v es)(hc:Xv F w w')(hi:∀k,F k->G k):nK G w' v es:=by
 obtain⟨us,h1,h2,h3⟩:=h;exact⟨us,(h1.keep hc).imp hi,h2,fun i hi'=>⟨(h3 i hi').1.keep hc hi,(h3 i hi').2⟩⟩
theorem nK.nil(F:Nat->Prop)(w:World):nK F w (.slice none 0 0) []:=⟨[],kP.nil _ _,rfl,fun i hi=>by simp at hi⟩
def ChP(F:Nat->Prop)(w:World)(v:Value):Option (C5×List Int)->Prop
 | none=>v=.pointer none
 | some (c,ty)=>∃C tv,v=.pointer (some ⟨C,0,none⟩)/\F C/\Za w C #[.int .i64 c.a,.int .i64 c.b,.int .i64 c.c,.int .i64 c.d,.int .i64 c.e,tv] 162/\Yn F w tv ty
def Vq(F:Nat->Prop)(w w':World):Prop:=∀B cs e,F B->Za w B cs e->Za w' B cs e
theorem ChP.keep{F G:Nat->Prop}{w w':World}{v:Value}{o:Option (C5×List Int)}(h:ChP F w v o)(hc:Xv F w w')(hb:Vq F w w')(hi:∀k,F k->G k):ChP G w' v o:=by
 cases o with
 | none=>exact h
 | some p=>
  obtain⟨C,tv,h1,h2,h3,h4⟩:=h;exact⟨C,tv,h1,hi _ h2,hb _ _ _ h2 h3,(h4.keep hc).imp hi⟩
def xC(F:Nat->Prop)(w:World)(us:List V2)(es:List (Int×List Int)):Prop:=
 us.length=es.length/\∀i (h:i<es.length),(xG us i).a=.int .i64 es[i].1/\Yn F w (xG us i).b es[i].2
theorem xC.keep{F G:Nat->Prop}{w w':World}{us:List V2}{es:List (Int×List Int)}(h:xC F w us es)(hc:Xv F w w')(hi:∀k,F k->G k):xC G w' us es:=
 ⟨h.1,fun i hi'=>⟨(h.2 i hi').1,((h.2 i hi').2.keep hc).imp hi⟩⟩
theorem xC.snoc{F:Nat->Prop}{w:World}{us:List V2}{es:List (Int×List Int)}{k:Int}{v:Value}{l:List Int}(h:xC F w us es)(hv:Yn F w v l):xC F w (us++[⟨.int .i64 k,v⟩]) (es++[(k,l)]):=by
 refine⟨QE1,fun i hi=>?_⟩;by_cases hlt:i<es.length
 ·rw[AY (by rw[h.1];exact hlt),List.getElem_append_left hlt]
  exact h.2 i hlt
 ·obtain rfl:i=es.length:=by simp at hi;omega
  have:=jN (es:=us) (us:=[⟨.int .i64 k,v⟩]) (i:=0);rw[Yq,h.1]at this;rw[this,List.getElem_append_right (ZB _)];simp only[Nat.sub_self,List.getElem_cons_zero];exact⟨rfl,hv⟩
theorem xC.nil(F:Nat->Prop)(w:World):xC F w [] []:=⟨rfl,fun i hi=>by simp at hi⟩
def AR(f:Nat->Value):Array Value:=((List.range 58).map f).toArray
def Vl(w:World)(B:Nat)(f:Nat->Value):Prop:=Za w B (AR f) 91
theorem FU(f:Nat->Value){i:Nat}(hi:i<58):(AR f)[i]? =some (f i):=by
 unfold AR;rw[List.getElem?_toArray,List.getElem?_map,List.getElem?_range hi];rfl
theorem Vl.cell{w:World}{B:Nat}{f:Nat->Value}(h:Vl w B f){i:Nat}(hi:i<58):w.cell? ⟨B,i,none⟩=some (f i):=by rw[Za.cell h,FU f hi]
theorem Vl.free{w:World}{B:Nat}{f:Nat->Value}(h:Vl w B f)(i:Nat):w.frozen? ⟨B,i,none⟩=false:=Za.free h i
def KC(f:Nat->Value)(n:Nat)(v:Value):Nat->Value:=fun x=>bif Nat.beq x n then v else f x
theorem JE(f:Nat->Value)(n:Nat)(v:Value):KC f n v n=v:=by unfold KC;rw[Nat.beq_refl];rfl
theorem X8{f:Nat->Value}{n x:Nat}{v:Value}(h:x≠n):KC f n v x=f x:=by
 unfold KC;rw[show Nat.beq x n=false from by rw[Bool.eq_false_iff];exact fun e=>h (Nat.eq_of_beq_eq_true e)];rfl
theorem Vl.set{w:World}{B:Nat}{f:Nat->Value}(h:Vl w B f)(i:Nat)(u:Value):Vl (w.setCell ⟨B,i,none⟩ u) B (KC f i u):=by
 have:=Za.set h i u;unfold Vl
 rwa[show(AR f).setIfInBounds i u=AR (KC f i u)from by
  apply Array.ext';unfold AR;simp only[Zj];apply List.ext_getElem
  ·simp
  ·intro n h1 h2
   simp only[List.getElem_set,List.getElem_map,List.getElem_range];by_cases e:i=n
   ·subst e;rw[if_pos rfl,JE]
   ·rw[if_neg e,X8 (fun e2=>e e2.symm)]]at this
def bI(f:Nat->Value):List Value:=[f 3,f 4,f 5,f 6,f 7,f 8,f 9,f 10,f 11,f 12,f 13,f 14,f 15,f 16,f 17,f 18,f 19,f 20,f 21,f 22,f 23,f 24,f 25,f 26,f 27,f 28,f 29]
structure zF (F:Nat->Prop) (w:World) (f:Nat->Value) (S:SS):Prop where
 text:Wd F w (f 0) S.text
 pos:f 1=.int .i64 S.pos
 mode:f 2=.int .i64 S.mode
 lr:S.regs.length=27
 regs:Yh F w (bI f) S.regs
 fk:f 30=.int .i64 S.fk
 fa:f 31=.int .i64 S.fa
 p0:f 32=.int .i64 S.part.a
 p1:f 33=.int .i64 S.part.b
 p2:f 34=.int .i64 S.part.c
 p3:f 35=.int .i64 S.part.d
 p4:f 36=.int .i64 S.part.e
 XQ:WE F w (f 37) S.XQ.most S.XQ.Zm (f 40) (f 41) S.XQ.older S.XQ
 RN:f 38=.int .i64 S.XQ.most
 Ey:f 39=.int .i64 S.XQ.Zm
 holder:f 42=.bool S.XQ.older
 past:nK F w (f 43) S.past
 fut:f 44=.slice none 0 0
 first:Wd F w (f 45) S.first
 last:ChP F w (f 46) S.last
 ask:Yn F w (f 48) S.ask
 older:f 49=.bool S.older
 pend:f 50=.string S.pend
 off:f 51=.int .i64 S.off
 width:f 52=.int .i64 S.width
 row:Yn F w (f 53) S.row
 rat:f 54=.int .i64 S.rat
 over:f 55=.bool S.over
theorem WE.JB{F G:Nat->Prop}{w w':World}{lv:Value}{most Zm:Int}{sv pv:Value}{older:Bool}{h:Hi}(r:WE F w lv most Zm sv pv older h)(hc:Xv F w w')(hi:∀k,F k->G k):WE G w' lv most Zm sv pv older h:=by
 obtain⟨vs,h1,h2⟩:=r.ls;exact⟨⟨vs,(h1.keep hc).imp hi,h2.imp fun v xs g=>(g.keep hc).imp hi⟩,r.most,r.Zm,(r.XU.keep hc).imp hi,(r.pat.keep hc).imp hi,r.older⟩
theorem zF.keep{F G:Nat->Prop}{w w':World}{f:Nat->Value}{S:SS}(h:zF F w f S)(hc:Xv F w w')(hb:Vq F w w')(hi:∀k,F k->G k):zF G w' f S:=
 {
  h with
  text:=h.text.keep hc hi
  regs:=h.regs.imp fun v xs g=>(g.keep hc).imp hi
  XQ:=h.XQ.JB hc hi
  past:=h.past.keep hc hi
  first:=h.first.keep hc hi
  last:=h.last.keep hc hb hi
  ask:=(h.ask.keep hc).imp hi
  row:=(h.row.keep hc).imp hi}
def QZJ(F G:Nat->Prop)(w:World)(v vv:Value):Option (C5×List Int)->Prop
 | none=>v=.pointer none
 | some (c,ty)=>∃C tv,v=.pointer (some ⟨C,0,none⟩)/\¬F C/\G C/\Za w C #[.int .i64 c.a,.int .i64 c.b,.int .i64 c.c,.int .i64 c.d,.int .i64 c.e,tv] 162/\Own 3 0 w tv ty/\
   ∀k,tv.ownBlock=some k->¬F k/\G k/\vv.ownBlock≠some k
structure qC (F G:Nat->Prop) (w:World) (B:Nat) (f:Nat->Value) (S:SS):Prop where
 blk:Vl w B f
 nB:¬F B
 gB:G B
 now:QZJ F G w (f 47) (f 57) S.now
 told:∃us,Xd 33 0 w (f 56) us/\xC F w us S.told
 Yi:∀k,(f 56).ownBlock=some k->¬F k/\G k
 Yv:Own 3 0 w (f 57) S.Yv
 J3:∀k,(f 57).ownBlock=some k->¬F k/\G k
structure HF (F G:Nat->Prop) (w:World) (B:Nat) (f:Nat->Value) (S:SS):Prop where
 fg:∀k,F k->G k
 lt:∀k,G k->k<w.heap.size
 d:zF F w f S
 m:qC F G w B f S
def YF(F G:Nat->Prop)(w:World)(B:Nat)(S:SS):Prop:=∃f,HF F G w B f S
def Gx(G:Nat->Prop)(w w':World):Nat->Prop:=fun k=>G k\/(w.heap.size<=k/\k<w'.heap.size)
structure Step (G:Nat->Prop) (w w':World):Prop where
 os:w'.os=w.os
 tape:w'.tape=w.tape
 output:w'.output=w.output
 size:w.heap.size<=w'.heap.size
 block:∀k,k<w.heap.size->¬G k->w'.heap[k]? =w.heap[k]?
theorem Step.refl(G:Nat->Prop)(w:World):Step G w w:=⟨rfl,rfl,rfl,ZB _,fun _ _ _=>rfl⟩
theorem Step.of_below(G:Nat->Prop){w w':World}(h:Below w.heap.size w w'):Step G w w':=⟨h.os,h.tape,h.output,h.size,fun k hk _=>h.block k hk⟩
theorem Step.trans{G:Nat->Prop}{a b c:World}(h:Step G a b)(g:Step (Gx G a b) b c):Step G a c:=
 ⟨g.os.trans h.os,g.tape.trans h.tape,g.output.trans h.output,Zf h.size g.size,fun k hk hn=>(g.block k (Zc hk h.size) (fun e=>by rcases e with e|e;exact hn e;omega)).trans (h.block k hk hn)⟩
theorem Gx.trans{G:Nat->Prop}{a b c:World}(h1:a.heap.size<=b.heap.size)(h2:b.heap.size<=c.heap.size):Gx (Gx G a b) b c=Gx G a c:=by
 funext k
 unfold Gx;apply propext;constructor
 ·rintro((h|h)|h)
  ·exact .inl h
  ·exact .inr QQ
  ·exact .inr QQ
 ·rintro(h|h)
  ·exact .inl (.inl h)
  ·by_cases hk:k<b.heap.size
   ·exact .inl (.inr QQ)
   ·exact .inr QQ
theorem Gx.refl(G:Nat->Prop)(w:World):Gx G w w=G:=by
 funext k
 unfold Gx;apply propext;constructor
 ·rintro(h|h)
  ·exact h
  ·omega
 ·exact .inl
theorem Vq.below(F:Nat->Prop){w w':World}(hb:Below w.heap.size w w'):Vq F w w':=fun B cs e _ h=>h.below hb h.lt
theorem Vq.setCell{F:Nat->Prop}{w:World}{a:Addr}(ha:¬F a.block)(u:Value):Vq F w (w.setCell a u):=fun B cs e hB h=>h.other (fun e=>ha (e▸hB)) u
theorem Own.moved{e:TypeId}{base:Nat}{w w':World}{v:Value}{xs:List Int}(h:Own e base w v xs)(hb:∀k,v.ownBlock=some k->w'.heap[k]? =w.heap[k]?):Own e base w' v xs:=by
 exact QIX
theorem Own.vz{e:TypeId}{base:Nat}{w:World}{v:Value}{xs:List Int}(h:Own e base w v xs):∀k,v.ownBlock=some k->k<w.heap.size:=fun k hk=>(XC h k hk).2
theorem Za.moved{w w':World}{B:Nat}{cs:Array Value}{e:TypeId}(h:Za w B cs e)(hb:w'.heap[B]? =w.heap[B]?):Za w' B cs e:=by unfold Za;rw[hb];exact h
theorem Za.type{w:World}{B:Nat}{cs ds:Array Value}{e e':TypeId}(h:Za w B cs e)(h':Za w B ds e'):e=e':=by
 unfold Za at *;rw[h]at h';simp at h';exact h'.2
def bQ(w:World)(f:Nat->Value)(k:Nat):Prop:=
 (f 56).ownBlock=some k\/(f 57).ownBlock=some k\/∃C,f 47=.pointer (some ⟨C,0,none⟩)/\(k=C\/∃tv,w.cell? ⟨C,5,none⟩=some tv/\tv.ownBlock=some k)
theorem QZJ.move{F G G':Nat->Prop}{w w':World}{v vv:Value}{o:Option (C5×List Int)}(h:QZJ F G w v vv o)(hG:∀k,G k->G' k)
  (hs:∀C,v=.pointer (some ⟨C,0,none⟩)->w'.heap[C]? =w.heap[C]?/\∀tv k,w.cell? ⟨C,5,none⟩=some tv->tv.ownBlock=some k->w'.heap[k]? =w.heap[k]?):QZJ F G' w' v vv o:=by
 cases o with
 | none=>exact h
 | some p=>
  obtain⟨C,tv,h1,h2,h3,h4,h5,h6⟩:=h;obtain⟨g1,g2⟩:=hs C h1;exact⟨C,tv,h1,h2,hG _ h3,h4.moved g1,h5.moved (fun k hk=>g2 tv k (h4.cell 5) hk),fun k hk=>⟨(h6 k hk).1,hG _ (h6 k hk).2.1,(h6 k hk).2.2⟩⟩
theorem qC.move{F G G':Nat->Prop}{w w':World}{B:Nat}{f:Nat->Value}{S:SS}(h:qC F G w B f S)(hG:∀k,G k->G' k)(hk:Xv F w w')
  (hs:∀k,(k=B\/bQ w f k)->w'.heap[k]? =w.heap[k]?):qC F G' w' B f S:=by
 obtain⟨us,ho,he⟩:=h.told;exact {
  blk:=Za.moved h.blk (hs B (.inl rfl))
  nB:=h.nB
  gB:=hG _ h.gB
  now:=h.now.move hG fun C hC=>⟨hs C (.inr (.inr (.inr ⟨C,hC,.inl rfl⟩))),fun tv k h1 h2=>hs k (.inr (.inr (.inr ⟨C,hC,.inr ⟨tv,h1,h2⟩⟩)))⟩
  told:=⟨us,ho.moved fun k hk=>hs k (.inr (.inl hk)),he.keep hk (fun _ h=>h)⟩
  Yi:=fun k hk=>⟨(h.Yi k hk).1,hG _ (h.Yi k hk).2⟩
  Yv:=h.Yv.moved fun k hk=>hs k (.inr (.inr (.inl hk)))
  J3:=fun k hk=>⟨(h.J3 k hk).1,hG _ (h.J3 k hk).2⟩}
theorem qC.Fe{F G:Nat->Prop}{w:World}{B:Nat}{f:Nat->Value}{S:SS}(h:qC F G w B f S)(hG:∀k,G k->k<w.heap.size):∀k,bQ w f k->k<w.heap.size:=by
 rintro k (hk|hk|⟨C,hC,hk⟩)
 ·exact hG _ (h.Yi k hk).2
 ·exact hG _ (h.J3 k hk).2
 ·have hn:=h.now
  cases ho:S.now with
  | none=>
   exact QIH
  | some p=>
   rw[ho]at hn;obtain⟨C',tv,h1,h2,h3,h4,h5,h6⟩:=hn;rw[hC]at h1;simp only[Value.pointer.injEq,ZL,YR,and_true]at h1;subst h1;rcases hk with rfl|⟨dE,h7,h8⟩
   ·exact hG _ h3
   ·rw[show w.cell? ⟨C,5,none⟩=some tv from h4.cell 5]at h7
    simp only[ZL]at h7;subst h7;exact hG _ (h6 k h8).2.1
theorem qC.WU{F G:Nat->Prop}{w:World}{B:Nat}{f:Nat->Value}{S:SS}(h:qC F G w B f S):∀k,bQ w f k->k≠B:=by
 obtain⟨us,ho,he⟩:=h.told;rintro k (hk|hk|⟨C,hC,hk⟩) rfl
 ·exact ho.XP h.blk QZ hk.symm
 ·exact Own.XP h.Yv h.blk QZ hk.symm
 ·have hn:=h.now
  cases ho:S.now with
  | none=>
   exact QIH
  | some p=>
   rw[ho]at hn;obtain⟨C',tv,h1,h2,h3,h4,h5,h6⟩:=hn;rw[hC]at h1;simp only[Value.pointer.injEq,ZL,YR,and_true]at h1;subst h1;rcases hk with rfl|⟨dE,h7,h8⟩
   ·exact absurd (h4.type h.blk) QZ
   ·rw[show w.cell? ⟨C,5,none⟩=some tv from h4.cell 5]at h7
    simp only[ZL]at h7;subst h7;exact h5.XP h.blk QZ h8.symm
theorem HF.below{F F' G:Nat->Prop}{w w':World}{B:Nat}{f:Nat->Value}{S:SS}(h:HF F G w B f S)(hb:Below w.heap.size w w')(h1:∀k,F k->F' k)(h2:∀k,F' k->F k\/(w.heap.size<=k/\k<w'.heap.size)):HF F' (Gx G w w') w' B f S:=by
 obtain⟨hFG,hGl,hD,hM⟩:=h;have hlt:=hM.Fe hGl;refine⟨fun k hk=>?_,fun k hk=>?_,hD.keep (Xv.below _ hb) (Vq.below _ hb) h1,?_⟩
 ·rcases h2 k hk with h|h
  ·exact .inl (hFG k h)
  ·exact .inr h
 ·rcases hk with h|h
  ·exact Zc (hGl k h) hb.size
  ·exact h.2
 ·have hM':=hM.move (G':=Gx G w w') (w':=w') (fun k hk=>.inl hk) (Xv.below F hb) (fun k hk=>hb.block k (by
   rcases hk with rfl|hk
   ·exact hGl _ hM.gB
   ·exact hlt k hk))
  have hno:∀k,G k->¬F k->¬F' k:=fun k hg hf hf'=>by
   rcases h2 k hf' with h|h
   ·exact hf h
   ·have:=hGl k hg;omega
  obtain⟨us,ho,he⟩:=hM'.told;refine {hM' with nB:=hno _ hM.gB hM.nB,now:=?_,told:=⟨us,ho,he.keep (Xv.refl _ _) h1⟩,Yi:=fun k hk=>⟨hno k (hM.Yi k hk).2 (hM.Yi k hk).1,(hM'.Yi k hk).2⟩,J3:=fun k hk=>⟨hno k (hM.J3 k hk).2 (hM.J3 k hk).1,(hM'.J3 k hk).2⟩};have hn:=hM'.now;have hn0:=hM.now;cases ho:S.now with
  | none=>rw[ho]at hn;exact hn
  | some p=>
   rw[ho]at hn hn0;obtain⟨C,tv,g1,g2,g3,g4,g5,g6⟩:=hn;obtain⟨C0,tv0,k1,k2,k3,k4,k5,k6⟩:=hn0;have e1:C0=C:=by
    rw[k1]at g1;simpa using g1
   subst e1;have e2:tv0=tv:=by
    have:=k4.below hb k4.lt;unfold Za at this g4;rw[this]at g4;simp at g4;exact g4
   subst e2;exact⟨C0,tv0,g1,hno _ k3 k2,g3,g4,g5,fun k hk=>⟨hno k (k6 k hk).2.1 (k6 k hk).1,(g6 k hk).2⟩⟩
theorem qC.store{F G:Nat->Prop}{w:World}{B:Nat}{f:Nat->Value}{S S':SS}(hFG:∀k,F k->G k)(hGl:∀k,G k->k<w.heap.size)(hM:qC F G w B f S)(i:Nat)(v:Value)
  (h1:47≠i) (h2:56≠i) (h3:57≠i) (hS:S'.now=S.now/\S'.told=S.told/\S'.Yv=S.Yv):qC F G (w.setCell ⟨B,i,none⟩ v) B (KC f i v) S':=by
 have hne:=hM.WU;have hs:∀k,k≠B->(w.setCell ⟨B,i,none⟩ v).heap[k]? =w.heap[k]?:=fun k hk=>Zl _ _ _ _ hk
 obtain⟨us,ho,he⟩:=hM.told;obtain⟨e1,e2,e3⟩:=hS;exact {
  blk:=hM.blk.set i v
  nB:=hM.nB
  gB:=hM.gB
  now:=by
   rw[X8 h1,X8 h3,e1];exact QH6
  told:=by
   rw[X8 h2,e2];exact⟨us,ho.moved fun k hk=>hs k (hne k (.inl hk)),he.keep (Xv.setCell hM.nB _) (fun _ h=>h)⟩
  Yi:=by rw[X8 h2];exact hM.Yi
  Yv:=by
   rw[X8 h3,e3];exact hM.Yv.moved fun k hk=>hs k (hne k (.inr (.inl hk)))
  J3:=by rw[X8 h3];exact hM.J3}
theorem qC.rX{F G G':Nat->Prop}{w w4:World}{B:Nat}{f:Nat->Value}{S S':SS}{v4:Value}{us4:List V2}(hM:qC F G w B f S)(hGG:∀k,G k->G' k)(hK:Xv F w w4)
  (hB:Vl w4 B f) (hs:∀k,k≠B->bQ w f k->(f 56).ownBlock≠some k->w4.heap[k]? =w.heap[k]?) (ho:Xd 33 0 w4 v4 us4) (he:xC F w4 us4 S'.told)
  (hv:∀k,v4.ownBlock=some k->¬F k/\G' k) (hS:S'.now=S.now/\S'.Yv=S.Yv):qC F G' (w4.setCell ⟨B,56,none⟩ v4) B (KC f 56 v4) S':=by
 obtain⟨us,ho0,he0⟩:=hM.told;have hne:=hM.WU;have hsc:∀k,k≠B->(w4.setCell ⟨B,56,none⟩ v4).heap[k]? =w4.heap[k]?:=fun k hk=>Zl _ _ _ _ hk
 have hev:∀{C:Nat} {cs:Array Value} {e:TypeId},Za w C cs e->33≠e->(f 56).ownBlock≠some C:=fun hC he e=>ho0.XP hC he e.symm
 have hown:∀{v:Value} {xs:List Int},Own 3 0 w v xs->∀k,v.ownBlock=some k->(f 56).ownBlock≠some k:=fun {v xs} hv k hk e=>by
  rcases hv.2 with⟨rfl,_⟩|⟨g,cap,cur,rfl,hb',hgg,rest⟩
  ·simp[Value.ownBlock]at hk
  ·simp only[Value.ownBlock,ZL]at hk
   exact QIT
 refine {blk:=hB.set 56 v4,nB:=hM.nB,gB:=hGG _ hM.gB,now:=?_,told:=⟨us4,?_,?_⟩,Yi:=?_,Yv:=?_,J3:=?_}
 ·rw[X8 QZ,X8 QZ,hS.1]
  have hn:=hM.now;cases hno:S.now with
  | none=>rw[hno]at hn;exact hn
  | some q=>
   obtain⟨c,ty⟩:=q;rw[hno]at hn;obtain⟨C,tv,h1,h2,h3,h4,h5,h6⟩:=hn;have mC:bQ w f C:=.inr (.inr ⟨C,h1,.inl rfl⟩);have mR:∀k,tv.ownBlock=some k->bQ w f k:=fun k hk=>.inr (.inr ⟨C,h1,.inr ⟨tv,h4.cell 5,hk⟩⟩)
   refine⟨C,tv,h1,h2,hGG _ h3,Za.moved h4 ?_,h5.moved fun k hk=>?_,fun k hk=>⟨(h6 k hk).1,hGG _ (h6 k hk).2.1,(h6 k hk).2.2⟩⟩
   ·rw[hsc C (hne C mC)];exact hs C (hne C mC) mC (hev h4 QZ)
   ·rw[hsc k (hne k (mR k hk))];exact hs k (hne k (mR k hk)) (mR k hk) (hown h5 k hk)
 ·rw[JE]
  exact ho.moved fun k hk=>hsc k (fun e=>by subst e;exact ho.XP hB QZ hk.symm)
 ·exact he.keep (Xv.setCell hM.nB _) (fun _ h=>h)
 ·rw[JE];exact hv
 ·rw[X8 QZ,hS.2]
  exact hM.Yv.moved fun k hk=>by
   have mR:bQ w f k:=.inr (.inl hk);rw[hsc k (hne k mR)];exact hs k (hne k mR) mR (hown hM.Yv k hk)
 ·rw[X8 QZ];exact fun k hk=>⟨(hM.J3 k hk).1,hGG _ (hM.J3 k hk).2⟩
def Same(F:Nat->Prop)(w w':World):Prop:=∀k,F k->w'.heap[k]? =w.heap[k]?
theorem Same.refl(F:Nat->Prop)(w:World):Same F w w:=fun _ _=>rfl
theorem Same.trans{F:Nat->Prop}{a b c:World}(h:Same F a b)(g:Same F b c):Same F a c:=fun k hk=>(g k hk).trans (h k hk)
theorem Same.imp{F F':Nat->Prop}{a b:World}(h:Same F a b)(hi:∀k,F' k->F k):Same F' a b:=fun k hk=>h k (hi k hk)
theorem Same.JB{F:Nat->Prop}{w w':World}(h:Same F w w'):Xv F w w':=fun p v hp hc=>by
 have:=h p.block hp;unfold World.cell? at *;rw[this];exact hc
theorem Same.blk{F:Nat->Prop}{w w':World}(h:Same F w w'):Vq F w w':=fun B cs e hB hb=>Za.moved hb (h B hB)
theorem Same.setCell{F:Nat->Prop}{w:World}{B i:Nat}(hB:¬F B)(v:Value):Same F w (w.setCell ⟨B,i,none⟩ v):=fun k hk=>Zl _ _ _ _ (fun e=>hB (by have e2:k=B:=e;rw[<-e2];exact hk))
theorem Same.below{F:Nat->Prop}{w w':World}(hF:∀k,F k->k<w.heap.size)(hb:Below w.heap.size w w'):Same F w w':=fun k hk=>hb.block k (hF k hk)
def Fx(F:Nat->Prop)(w w':World):Nat->Prop:=fun k=>F k\/(w.heap.size<=k/\k<w'.heap.size)
theorem Fx.old{F:Nat->Prop}{w w':World}:∀k,F k->Fx F w w' k:=fun _ h=>.inl h
theorem Fx.new{F:Nat->Prop}{w w':World}:∀k,w.heap.size<=k/\k<w'.heap.size->Fx F w w' k:=fun _ h=>.inr h
structure VPs (F G:Nat->Prop) (w:World) (B:Nat) (S:SS) (w':World):Prop where
 step:Step G w w'
 same:Same F w w'
 hold:∃F',(∀k,F k->F' k)/\YF F' (Gx G w w') w' B S
def VP(F G:Nat->Prop)(w:World)(B:Nat)(S:SS)(v:Value)(e:Ending)(w':World):Prop:=e=.returned v/\VPs F G w B S w'
def YM:Value:=.tuple #[]
structure At (F0 G0:Nat->Prop) (w0:World) (F:Nat->Prop) (w:World) (B:Nat) (f:Nat->Value) (S:SS):Prop where
 step:Step G0 w0 w
 same:Same F0 w0 w
 sub:∀k,F0 k->F k
 hf:HF F (Gx G0 w0 w) w B f S
theorem At.begin{F G:Nat->Prop}{w:World}{B:Nat}{f:Nat->Value}{S:SS}(h:HF F G w B f S):At F G w F w B f S:=
 ⟨Step.refl _ _,Same.refl _ _,fun _ h=>h,by rw[Gx.refl];exact h⟩
theorem At.done{F0 G0 F:Nat->Prop}{w0 w:World}{B:Nat}{f:Nat->Value}{S:SS}(h:At F0 G0 w0 F w B f S):VPs F0 G0 w0 B S w:=⟨h.step,h.same,F,h.sub,f,h.hf⟩
theorem At.gp{F0 G0 F:Nat->Prop}{w0 w:World}{B:Nat}{f:Nat->Value}{S:SS}(h:At F0 G0 w0 F w B f S):∀k,F k->k<w.heap.size:=fun k hk=>h.hf.lt k (h.hf.fg k hk)
theorem At.mh{F0 G0 F F':Nat->Prop}{w0 w w':World}{B:Nat}{f:Nat->Value}{S:SS}(h:At F0 G0 w0 F w B f S)(hb:Below w.heap.size w w')(h1:∀k,F k->F' k)(h2:∀k,F' k->Fx F w w' k):At F0 G0 w0 F' w' B f S:=by
 refine⟨h.step.trans (Step.of_below _ hb),h.same.trans (Same.below (fun k hk=>h.gp k (h.sub k hk)) hb),fun k hk=>h1 k (h.sub k hk),?_⟩;have:=h.hf.below hb h1 h2
 rwa[Gx.trans h.step.size hb.size]at this
theorem At.below{F0 G0 F:Nat->Prop}{w0 w w':World}{B:Nat}{f:Nat->Value}{S:SS}(h:At F0 G0 w0 F w B f S)(hb:Below w.heap.size w w'):At F0 G0 w0 (Fx F w w') w' B f S:=h.mh hb Fx.old (fun _ h=>h)
theorem At.JA{F0 G0 F:Nat->Prop}{w0 w w':World}{B:Nat}{f:Nat->Value}{S:SS}(h:At F0 G0 w0 F w B f S)(hb:Below w.heap.size w w'):At F0 G0 w0 F w' B f S:=h.mh hb (fun _ h=>h) Fx.old
theorem At.drew{F0 G0 F:Nat->Prop}{w0 w:World}{B:Nat}{f:Nat->Value}{S:SS}(h:At F0 G0 w0 F w B f S):At F0 G0 w0 F w.drew B f S:=h.JA (ZH _ w).drew
theorem At.call{F0 G0 F:Nat->Prop}{w0 w w':World}{B:Nat}{f:Nat->Value}{S S':SS}(h:At F0 G0 w0 F w B f S)(hv:VPs F (Gx G0 w0 w) w B S' w'):∃F' f',At F0 G0 w0 F' w' B f' S'/\(∀k,F k->F' k)/\Same F w w':=by
 obtain⟨F',hF',f',hf'⟩:=hv.hold;rw[Gx.trans h.step.size hv.step.size]at hf';exact⟨F',f',⟨h.step.trans hv.step,h.same.trans (hv.same.imp h.sub),fun k hk=>hF' k (h.sub k hk),hf'⟩,hF',hv.same⟩
theorem VPs.get{F G:Nat->Prop}{w w':World}{B:Nat}{S:SS}(hv:VPs F G w B S w'):∃F' f',At F G w F' w' B f' S/\(∀k,F k->F' k)/\Same F w w':=by
 obtain⟨F',hF',f',hf'⟩:=hv.hold;exact⟨F',f',⟨hv.step,hv.same,hF',hf'⟩,hF',hv.same⟩
theorem Gx.setCell(G:Nat->Prop)(w0 w:World)(a:Addr)(v:Value):Gx G w0 (w.setCell a v)=Gx G w0 w:=by
 unfold Gx;rw[size_setCell]
theorem zF.setCell{F:Nat->Prop}{w:World}{B i:Nat}{v:Value}{f:Nat->Value}{S:SS}(hB:¬F B)(h:zF F w f S):zF F (w.setCell ⟨B,i,none⟩ v) f S:=
 h.keep (Xv.setCell hB v) (Vq.setCell hB v) (fun _ h=>h)
theorem At.st{F0 G0 F:Nat->Prop}{w0 w:World}{B:Nat}{f:Nat->Value}{S S':SS}(h:At F0 G0 w0 F w B f S)(i:Nat)(v:Value)(hd:zF F w (KC f i v) S')
  (h1:47≠i) (h2:56≠i) (h3:57≠i) (hS:S'.now=S.now/\S'.told=S.told/\S'.Yv=S.Yv) (hB:∀k,F0 k->k≠B) (hGB:Gx G0 w0 w B):At F0 G0 w0 F (w.setCell ⟨B,i,none⟩ v) B (KC f i v) S':=by
 have hsz:(w.setCell ⟨B,i,none⟩ v).heap.size=w.heap.size:=size_setCell _ _ _;refine⟨⟨h.step.os,h.step.tape,h.step.output,QD8,fun k hk hn=>?_⟩,fun k hk=>?_,h.sub,⟨?_,?_,hd.setCell h.hf.m.nB,?_⟩⟩
 ·rw[Zl _ _ _ _ (fun e=>?_)]
  ·exact h.step.block k hk hn
  ·subst e
   rcases hGB with hg|hg
   ·exact hn hg
   ·omega
 ·rw[Zl _ _ _ _ (hB k hk)];exact h.same k hk
 ·rw[Gx.setCell];exact h.hf.fg
 ·rw[Gx.setCell,hsz];exact h.hf.lt
 ·rw[Gx.setCell];exact h.hf.m.store h.hf.fg h.hf.lt i v h1 h2 h3 hS
theorem At.neB{F0 G0 F:Nat->Prop}{w0 w:World}{B:Nat}{f:Nat->Value}{S:SS}(h:At F0 G0 w0 F w B f S):∀k,F0 k->k≠B:=fun k hk e=>h.hf.m.nB (e▸h.sub k hk)
theorem At.store{F0 G0 F:Nat->Prop}{w0 w:World}{B:Nat}{f:Nat->Value}{S S':SS}(h:At F0 G0 w0 F w B f S)(i:Nat)(v:Value)(hd:zF F w (KC f i v) S')
  (h1:47≠i:=by decide) (h2:56≠i:=by decide) (h3:57≠i:=by decide) (hS:S'.now=S.now/\S'.told=S.told/\S'.Yv=S.Yv:=by exact⟨rfl,rfl,rfl⟩):At F0 G0 w0 F (w.setCell ⟨B,i,none⟩ v) B (KC f i v) S':=
 h.st i v hd h1 h2 h3 hS h.neB h.hf.m.gB
theorem At.told{F0 G0 F:Nat->Prop}{w0 w w1 w4:World}{B:Nat}{f:Nat->Value}{S S':SS}{v4:Value}{us4:List V2}(h:At F0 G0 w0 F w B f S)(hb:Below w.heap.size w w1)(hg:w1.grownBy w4 (f 56).ownBlock)
  (ho:Xd 33 0 w4 v4 us4) (hat:v4.ownBlock=(f 56).ownBlock\/v4.ownBlock=some w1.heap.size) (he:xC F w us4 S'.told) (hd:zF F w (KC f 56 v4) S') (hS:S'.now=S.now/\S'.Yv=S.Yv):
  At F0 G0 w0 F (w4.setCell ⟨B,56,none⟩ v4) B (KC f 56 v4) S':=by
 have hM:=h.hf.m;have hlt:=hM.Fe h.hf.lt;have hsz:w.heap.size<=w4.heap.size:=Zf hb.size hg.size;have hsc:(w4.setCell ⟨B,56,none⟩ v4).heap.size=w4.heap.size:=size_setCell _ _ _;have hblk:∀k,k<w.heap.size->(f 56).ownBlock≠some k->w4.heap[k]? =w.heap[k]?:=fun k hk hn=>by
  exact QIe
 have hF:∀k,F k->w4.heap[k]? =w.heap[k]?:=fun k hk=>hblk k (h.gp k hk) (fun e=>(hM.Yi k e).1 hk)
 have hsame:Same F w w4:=hF;have Rb:∀k,Gx G0 w0 w k->Gx G0 w0 w4 k:=fun k hk=>by
  rcases hk with hk|hk
  ·exact .inl hk
  ·exact .inr ⟨hk.1,QQ⟩
 obtain⟨us,ho0,he0⟩:=hM.told;have hBB:w4.heap[B]? =w.heap[B]?:=hblk B (h.hf.lt B hM.gB) (ho0.XP hM.blk QZ).symm;refine⟨⟨hg.os.trans (hb.os.trans h.step.os),hg.tape.trans (hb.tape.trans h.step.tape),hg.output.trans (hb.output.trans h.step.output),QEH,fun k hk hn=>?_⟩,fun k hk=>?_,h.sub,⟨?_,?_,?_,?_⟩⟩
 ·have hkB:k≠B:=fun e=>by
   subst e;rcases hM.gB with hg|hg
   ·exact hn hg
   ·omega
  rw[Zl _ _ _ _ hkB,hblk k (Zc hk h.step.size) (fun e=>by
   rcases(hM.Yi k e).2 with hg|hg
   ·exact hn hg
   ·omega)]
  exact h.step.block k hk hn
 ·rw[Zl _ _ _ _ (h.neB k hk),hF k (h.sub k hk)];exact h.same k hk
 ·rw[Gx.setCell];exact fun k hk=>Rb k (h.hf.fg k hk)
 ·rw[Gx.setCell,hsc]
  exact QLK
 ·exact(hd.keep hsame.JB hsame.blk (fun _ h=>h)).setCell hM.nB
 ·rw[Gx.setCell]
  refine hM.rX Rb hsame.JB (Za.moved hM.blk hBB) (fun k _ hm hne=>hblk k (hlt k hm) hne) ho (he.keep hsame.JB (fun _ h=>h)) (fun k hk=>?_) hS;rcases hat with e|e
  ·rw[e]at hk
   exact⟨(hM.Yi k hk).1,Rb k (hM.Yi k hk).2⟩
  ·rw[e]at hk
   simp only[ZL]at hk;subst hk;have:=ho.lt _ e;have h1:=hb.size;have h2:=h.step.size;exact⟨fun hf=>by have:=h.gp _ hf;omega,.inr ⟨QQ,this⟩⟩
theorem Gu:(Tryz.prog.info? 33).map (fun i=>(i.zero,i.size,i.bytes))=some (some (.agg #[.int .i64 0,.slice none 0 0]),2,32):=QX
theorem Yn.one{F:Nat->Prop}{w:World}{v:Value}{xs:List Int}(h:Yn F w v xs):v.oneCell'=true:=by
 obtain⟨a,n,c,rfl⟩:=h.form;rfl
theorem vQ(F G:Nat->Prop)(B:Nat)(S:SS)(k:Int)(lv:Value)(l:List Int)(w:World)(h:YF F G w B S)(hl:Yn F w lv l)(hn:S.told.length<=4398046511103):
  Calls Tryz.prog 55 #[.pointer (some ⟨B,0,none⟩),.int .i64 k,lv] w (VP F G w B (S.tell k l) YM):=by
 obtain⟨f,hf⟩:=h;have hM:=hf.m;obtain⟨us,hO,hE⟩:=hM.told;obtain⟨a,n,c,hv⟩:=hO.form;have c56:=hM.blk.cell (i:=56) QQ;rw[hv]at c56 hO;obtain⟨la,ln,lc,rfl⟩:=hl.form;have HF0:=Zy hf;have HO:=Zy hO;have HE:=Zy hE;have HL:=Zy hl;have HV:=Zy hv;have RI:us.length<=4398046511103:=by rw[hE.1];exact hn
 have IZ:=Zy RI;clear hM hO hE hv hl RI hn hf;go_enter Tryz.func55,Tryz.ntmps55
 go_wp2_with (at_builtin;refine QYJ (T:=33) (ST:=29) Tryz.underlying29 Gu rfl QZ rfl _ _ rfl 0 _ us [⟨.int .i64 k,.slice la ln lc⟩] ⟨w.heap.size,0,none⟩ 1 1 rfl rfl (HO.out.alloc _) (LK (Za.new w #[.int .i64 k,.slice la ln lc] 33)) (fun u hu=>QEG) rfl (by have:=IZ.out;simp;omega) QJ QZ ?_;intro v4 w4 o4 hg4 QY3;have hB4:Vl w4 B _:=Za.grown (Za.alloc HF0.out.m.blk _) hg4 (HO.out.XP HF0.out.m.blk QZ);obtain⟨c4,z4⟩:w4.cell? ⟨B,56,none⟩=some (.slice a n c)/\w4.frozen? ⟨B,56,none⟩=false:=⟨by rw[hB4.cell QQ,HV.out],hB4.free 56⟩;clear hB4;obtain⟨a4,n4,c4,rfl⟩:=o4.form)
 go_end0
 have hf:=HF0.out;have hV:=HV.out;exact⟨rfl,((At.begin hf).told (S':=S.tell k l) (ZR w _) (by rw[hV];exact hg4) o4 (by rw[hV];exact QY3) (HE.out.snoc (k:=k) HL.out) {hf.d with} ⟨rfl,rfl⟩).done⟩
theorem U9(F G:Nat->Prop)(B:Nat)(S:SS)(w:World)(h:YF F G w B S)(hn:S.told.length<=4398046511103):
  Calls Tryz.prog 60 #[.pointer (some ⟨B,0,none⟩)] w (VP F G w B S.Y2 YM):=by
 have HT:=Zy (vQ F G B S 1 (.slice none 0 0) [] w h (Yn.nil _ _) hn);clear h hn;go_enter Tryz.func60,Tryz.ntmps60
 go_wp2_with fail
 refine HT.out.mono ?_;rintro e w1 ⟨rfl,hv⟩;exact QHp
def Px(base:Nat)(L:List Int)(w:World)(e:Ending)(w':World):Prop:=∃p T,e=.returned (.pointer p)/\Ky (fun k=>base<=k) w' (.pointer p) T/\T.KA=L/\Below w.heap.size w w'
theorem Dn(base:Nat)(w:World)(hbs:base<=w.heap.size)(b:Nat)(lv rv:Value)(l r:Tr)(c s k:Int)(hb:b=w.heap.size)(hl:Ky (fun k=>base<=k) w lv l)(hr:Ky (fun k=>base<=k) w rv r)(hs:s=((Tr.node l c r).KA.length:Int))(hk:k=((Tr.node l c r).xZ:Int)):
  Ky (fun k=>base<=k) (w.alloc (.cells #[lv,rv,.int .i64 c,.int .i64 s,.int .i64 k] 150)) (.pointer (some ⟨b,0,none⟩)) (.node l c r):=by
 subst hb hs hk;have h:=Za.new w #[lv,rv,.int .i64 c,.int .i64 ((Tr.node l c r).KA.length:Int),.int .i64 ((Tr.node l c r).xZ:Int)] 150;have hb:=ZR w (.cells #[lv,rv,.int .i64 c,.int .i64 ((Tr.node l c r).KA.length:Int),.int .i64 ((Tr.node l c r).xZ:Int)] 150);exact⟨w.heap.size,lv,rv,hbs,rfl,h.cell 0,h.cell 1,h.cell 2,h.cell 3,h.cell 4,hl.keep (Xv.below _ hb) (fun _ h=>h),hr.keep (Xv.below _ hb) (fun _ h=>h)⟩
theorem Ky.NM{F:Nat->Prop}{w:World}{R:Nat}{u x:Value}{e:TypeId}(hR:Za w R #[u] e):∀{t:Tr} {v:Value},Ky F w v t->Ky F (w.setCell ⟨R,0,none⟩ x) v t
 | .nil,_,h=>h
 | .node l c r,_,⟨b,lv,rv,hb,h0,h1,h2,h3,h4,h5,h6,h7⟩=>by
  have hne:b≠R:=by
   rintro rfl;have:=hR.cell 1;rw[this]at h2;simp at h2
  exact⟨b,lv,rv,hb,h0,Zr h1 hne,Zr h2 hne,Zr h3 hne,Zr h4 hne,Zr h5 hne,Ky.NM hR h6,Ky.NM hR h7⟩
def QJ4(L:List Int)(er:Int)(w:World)(e:Ending)(w':World):Prop:=∃p,e=.returned (.tuple #[.agg #[.pointer p],.int .i64 er])/\Wd (fun k=>w.heap.size<=k) w' (.pointer p) L/\Below w.heap.size w w'
theorem NT(base:Nat)(lp rp:Option Addr)(l r:Tr)(c:Int)(w:World)(hbs:base<=w.heap.size)(hl:Ky (fun k=>base<=k) w (.pointer lp) l)(hr:Ky (fun k=>base<=k) w (.pointer rp) r)(hsz:l.KA.length+r.KA.length<=100000):
  Calls Tryz.prog 149 #[.pointer lp,.int .i64 c,.pointer rp] w (Px base (l.KA++c::r.KA) w):=by
 have h1:=jb _ _ _ hl.tree;have h2:=jb _ _ _ hr.tree;have h3:=D6 _ _ _ hl.tree;have h4:=D6 _ _ _ hr.tree;have t1:=l.vX;have t2:=r.vX;have HL:=Zy hl;have HR:=Zy hr;have hsz2:((Tr.node l c r).KA.length:Int)=(l.KA.length:Int)+1+(r.KA.length:Int):=by simp[Tr.KA];omega
 have QUr:((Tr.node l c r).xZ:Int)=1+max (l.xZ:Int) (r.xZ:Int):=by simp only[Tr.xZ];omega
 have HS:=Zy hsz2;have HT:=Zy QUr;obtain⟨sl,hsl⟩:∃n,l.KA.length=n:=⟨_,rfl⟩;obtain⟨sr,hsr⟩:∃n,r.KA.length=n:=⟨_,rfl⟩;obtain⟨kl,hkl⟩:∃n,l.xZ=n:=⟨_,rfl⟩;obtain⟨kr,hkr⟩:∃n,r.xZ=n:=⟨_,rfl⟩;rw[hsl]at h1 HS hsz t1;rw[hsr]at h2 HS hsz t2;rw[hkl]at h3 HT t1;rw[hkr]at h4 HT t2;have hm:kl<kr\/kr<=kl:=QQ;clear hl hr hsz2 QUr hsl hsr hkl hkr;rcases hm with hm|hm
 ·have i1:(kl:Int)<(kr:Int):=by omega
  have i2:max (kl:Int) (kr:Int)=(kr:Int):=QQ;exact QGo
 ·have i1:(kr:Int)<=(kl:Int):=by omega
  have i2:max (kl:Int) (kr:Int)=(kl:Int):=QQ;exact QGo
def MR(base n:Nat):Prop:=∀(a:Option Addr) (m c:Nat) (xs:List Int) (w:World),m<=n->m<=10000->base<=w.heap.size->Sl w (.slice a m c) xs->Calls Tryz.prog 136 #[.slice a m c] w (Px base xs w)
theorem Fz(base:Nat):∀n,MR base n:=by
 intro n;induction n with
 | zero=>
  intro a m c xs w hm hm2 hbs hs;obtain rfl:m=0:=QQ;obtain rfl:xs=[]:=ZM hs.get.1;exact QIs
 | succ n ih=>
  intro a m c xs w hm hm2 hbs hs;obtain⟨h1,h2,h3,h4,h5⟩:=hs.get;rcases Xf m with rfl|hpos
  ·obtain rfl:xs=[]:=ZM h1
   exact QIs
  ·obtain⟨k,hk⟩:∃k,m / 2=k:=⟨_,rfl⟩
   have hkm:k<m:=QQ;obtain⟨b,o,rfl,-⟩:=h4.at (k:=0) QQ;have e1:=h4.QWy (k:=k) QQ;have QVH:=yZ (some ⟨b,o,none⟩) m c k QQ;have QQz:=uz (some ⟨b,o,none⟩) m c (k+1) QQ;have hIe:=h4.mU (c:=c) (k+1) QQ QQ;have HI1:=Zy (show Sl w (.slice (some ⟨b,o,none⟩) k c) (xs.take k)from⟨_,_,_,rfl,QEz,QQ,h3,h4.take k,fun e=>QDk⟩);have HI2:=Zy (show Sl w (.slice (qO (some ⟨b,o,none⟩) c (k+1)) (m-(k+1)) (c-(k+1))) (xs.drop (k+1))from⟨_,_,_,rfl,by rw[Xk];omega,QQ,QQ,hIe,fun e=>by have:=Vu e;cases this⟩);have i0:(m:Int).tdiv 2=(k:Int):=by rw[<-hk];rfl
   have i1:((m:Int)==0)=false:=QY;have i2:(k:Int)<(m:Int):=QQ
   push_cast at QQz
   have iw:IntKind.i64.wrap ((k:Int)+1)=(k:Int)+1:=QDJ;unfold MR at ih;have IHH:=Zy ih;have bX:=Zy h1;have HML:=Zy (gT (xs:=xs) (k:=k) QQ);clear h1 h4 h5 hs hIe ih hk;go_enter Tryz.func136,Tryz.ntmps136
   go_upto_region 4 with fail
   go_region_held3 (fun w'=>w'.cell? ⟨b,o+k,none⟩=some (.int .i64 (ix xs k))/\Below w.heap.size w w') (first|exact⟨e1,(ZH _ _).drew⟩|assumption|exact Gj ‹_› ‹_›)
    (first|(go_at_call 136;((with_reducible refine(IHH.out (some ⟨b,o,none⟩) k c (xs.take k) _ QQ QQ (Zf hbs (kb1 ‹_›).size) (HI1.out.below (kb1 ‹_›))).mono ?_);rintro e w4 ⟨p4,T4,rfl,hT4,hL4,hb4⟩;have oH:=Gj ‹_› hb4))|(go_at_call 136;((with_reducible refine(IHH.out _ (m-(k+1)) _ (xs.drop (k+1)) _ QQ QQ (Zf hbs (kb1 ‹_›).size) (HI2.out.below (kb1 ‹_›))).mono ?_);rintro e w5 ⟨p5,T5,rfl,hT5,hL5,hb5⟩;have hS5:=Gj ‹_› hb5))|(go_at_call 149;((with_reducible refine(NT base p4 p5 T4 T5 (ix xs k) _ (Zf hbs (kb1 ‹_›).size) (hT4.keep (Xv.below _ hb5) (fun _ h=>h)) hT5 (by rw[hL4,hL5,Zi,Xk,bX.out];omega)).mono ?_);rintro e w6 ⟨p6,T6,rfl,hT6,hL6,hb6⟩;have hS6:=Gj ‹_› hb6)))
   all_goals
    go_wp2;go_ret;exact⟨p6,T6,rfl,hT6,by rw[hL6,hL4,hL5];exact HML.out,kb1 hS6⟩
theorem I5(base:Nat)(a:Option Addr)(m c:Nat)(xs:List Int)(w:World)(hbs:base<=w.heap.size)(hm:m<=10000)(hs:Sl w (.slice a m c) xs):Calls Tryz.prog 136 #[.slice a m c] w (Px base xs w):=
 Fz base m a m c xs w (ZB _) hm hbs hs
theorem fZ(a:Option Addr)(m c:Nat)(xs:List Int)(w:World)(hm:m<=4096)(hs:Sl w (.slice a m c) xs):
  Calls Tryz.prog 113 #[.slice a m c] w (QJ4 xs 0 w):=by
 have hR:=Za.new w #[.pointer none] 81;have hb:=ZR w (.cells #[.pointer none] 81);have hz:w.heap.size<=(w.alloc (.cells #[.pointer none] 81)).heap.size:=QJ;have HB:=Zy (I5 w.heap.size a m c xs _ QJ QQ (hs.below hb));clear hs;go_enter Tryz.func113,Tryz.ntmps113
 go_upto_region 1 with fail
 generalize(w.alloc (.cells #[.pointer none] 81))=w1 at *;go_wp2_with fail
 refine HB.out.mono ?_;rintro e w2 ⟨p,T,rfl,hT,hL,hb2⟩;have hR2:=hR.below hb2 hR.lt;obtain⟨y0,y1⟩:=hR2.one;have HT:=Zy (hT.NM hR2 (x:=.pointer p));have hacc:=ZE hb hz hb2;clear hT hR;go_wp2;have z0:=(hR2.set 0 (.pointer p)).one.1;refine ZC (v:=.tuple #[.agg #[.pointer p],.int .i64 0]) (by simp[results,Tryz.results113,go_sem,z0]) rfl ?_;exact⟨p,rfl,⟨T,HT.out,hL⟩,hacc.setCell (p:=⟨w.heap.size,0,none⟩) (ZB _) _⟩
end Go.Proofs.YtmdnepkekekncaaGreat
