/- joined, no condition of its own. -/
import Derived.Test.YtmdnepkekekncaaGreatJfJ30
set_option linter.unusedVariables false
set_option linter.unusedSimpArgs false
set_option maxRecDepth 100000
set_option maxHeartbeats 12000000
namespace Go.Proofs.YtmdnepkekekncaaGreat
open Go.RowKit
def Km(c:C5):Prop:=0<=c.a/\c.a<=999
structure Xz (K:Nat) (S:SS):Prop where
 tl:S.text.length<=200
 p0:0<=S.pos
 p1:S.pos<=S.text.length
 pc:S.mode=0\/S.mode=3->S.pos<=max 0 ((S.text.length:Int)-1)
 n0:S.mode=0\/S.mode=3->S.now=none
 md:S.mode=0\/S.mode=1\/S.mode=2\/S.mode=3
 rl:S.regs.length=27
 rs:∀i,i<27->(rx S.regs i).length<=200
 pt:Yl S.part.a S.part.b S.part.c S.part.d S.part.e=0
 hi:jF S.XQ=0
 pl:S.past.length<=30
 ps:∀e∈S.past,e.1.length<=200/\0<=e.2/\e.2<=max 0 ((e.1.length:Int)-1)
 fl:S.first.length<=200
 la:∀c ty,S.last=some (c,ty)->Km c/\ty.length<=K
 nw:∀c ty,S.now=some (c,ty)->Km c/\ty.length<=K
 al:S.ask.length<=200
 o0:0<=S.off/\S.off<=200
 wd:2<=S.width/\S.width<=120
 rw_:(S.row.length:Int)=S.width
 re:KS S.row S.rat=0
theorem Xz.mono{K K':Nat}{S:SS}(h:Xz K S)(hK:K<=K'):Xz K' S:=
 {h with la:=fun c ty e=>⟨(h.la c ty e).1,Zf (h.la c ty e).2 hK⟩,nw:=fun c ty e=>⟨(h.nw c ty e).1,Zf (h.nw c ty e).2 hK⟩}
theorem Xz.ins{K:Nat}{S:SS}(h:Xz K S):Xz K {S with mode:=1}:={h with pc:=fun e=>by dsimp only at e;omega,n0:=fun e=>by dsimp only at e;omega,md:=.inr (.inl rfl)}
theorem Xz.tell{K:Nat}{S:SS}(h:Xz K S)(k:Int)(l:List Int):Xz K (S.tell k l):={h with}
theorem Xz.Y2{K:Nat}{S:SS}(h:Xz K S):Xz K S.Y2:=h.tell 1 []
theorem Xz.leave{K:Nat}{S:SS}(h:Xz K S):Xz K S.leave:=
 {
  h with
  p0:=by dsimp only[SS.leave];omega
  p1:=QFQ
  pc:=fun _=>QFQ
  n0:=fun _=>rfl
  md:=.inl rfl
  la:=fun c ty e=>by
   dsimp only[SS.leave]at e;split at e
   ·exact h.nw c ty e
   ·exact h.la c ty e
  nw:=fun c ty e=>QDk}
theorem Ap:Yl 0 0 0 0 0=0:=QZ
theorem Xz.Js{K:Nat}{S:SS}(h:Xz K S)(t:List Int)(md:Int)(ht:t.length<=200)(hmd:md=0\/md=1)(hno:S.now=none):Xz K (S.Js t md):=
 {
  h with
  tl:=ht
  p0:=QEL
  p1:=QEL
  pc:=fun _=>QEL
  n0:=fun _=>hno
  md:=by dsimp only[SS.Js];omega
  pt:=Ap
  pl:=Z4 _
  ps:=fun e he=>QEA
  fl:=ht}
theorem Xz.save{K:Nat}{S:SS}(h:Xz K S)(hm:S.mode=0\/S.mode=3):Xz K S.save:=
 {
  h with
  pl:=by have:=h.pl;dsimp only[SS.save];simp;omega
  ps:=fun e he=>by
   have he:=List.mem_of_mem_drop he;rcases XO.1 he with he|he
   ·exact h.ps e he
   ·rw[List.mem_singleton]at he
    subst he;exact⟨h.tl,h.p0,h.pc hm⟩}
theorem tC{t:List Int}{p md k b:Int}(ht:t.length<=200)(hp0:0<=p)(hp1:p<=t.length)(hb:0<=b/\(0<p->b<p))(he:(JV t p md k b).2.2=0):
  (JV t p md k b).1.length<=200/\0<=(JV t p md k b).2.1/\(JV t p md k b).2.1<=(JV t p md k b).1.length/\(md=1\/md=2):=by
 unfold JV at he ⊢;by_cases c1:200<t.length
 ·omega
 rw[if_neg c1]at he ⊢;by_cases c2:p<0\/(t.length:Int)<p\/(md≠1/\md≠2)
 ·rw[if_pos c2]at he;exact absurd he QZ
 rw[if_neg c2]at he ⊢;have hmd:md=1\/md=2:=QQ;by_cases c3:32<=k/\k≠127
 ·rw[if_pos c3]at he ⊢
  by_cases c4:md=2/\p<t.length
  ·rw[if_pos c4]
   exact QI5
  ·rw[if_neg c4]at he ⊢
   by_cases c5:t.length=200
   ·rw[if_pos c5]at he;exact absurd he QZ
   ·rw[if_neg c5]
    exact QI5
 rw[if_neg c3]at he ⊢;by_cases c4:k≠8/\k≠127/\k≠21/\k≠23
 ·rw[if_pos c4]at he;exact absurd he QZ
 rw[if_neg c4]at he ⊢;by_cases c5:p=0
 ·rw[if_pos c5]at he;exact absurd he QZ
 rw[if_neg c5]at he ⊢;have hb2:=hb.2 QQ;by_cases c6:k=21
 ·rw[if_pos c6]
  exact QI5
 rw[if_neg c6];by_cases c7:k=23
 ·rw[if_pos c7]
  refine⟨?_,hb.1,?_,hmd⟩<;>simp<;>omega
 rw[if_neg c7];by_cases c8:md=2
 ·rw[if_pos c8]
  refine⟨ht,Qo,Qo,hmd⟩
 ·rw[if_neg c8]
  exact QI5
theorem nQ(l:List Int)(p:Int)(h0:0<=p):0<=Kl l false p/\(0<p->Kl l false p<p):=by
 rcases(WT l false p h0).1 with h|h<;>omega
theorem tF{K:Nat}{S:SS}{key:Int}(h:Xz K S)(he:(S.J5 key).2.2=0):(S.J5 key).1.length<=200/\0<=(S.J5 key).2.1/\(S.J5 key).2.1<=(S.J5 key).1.length/\(S.mode=1\/S.mode=2):=
 tC h.tl h.p0 h.p1 (nQ _ _ h.p0) he
theorem Xz.typed{K:Nat}{S:SS}(h:Xz K S)(key:Int)(hn:∀c ty,S.now=some (c,ty)->ty.length+1<=K):Xz K (S.typed key):=by
 unfold SS.typed;by_cases c1:key=27
 ·rw[if_pos c1];exact h.leave
 rw[if_neg c1];by_cases c2:(S.J5 key).2.2≠0
 ·rw[if_pos c2];exact h.Y2
 rw[if_neg c2];obtain⟨e1,e2,e3,e4⟩:=tF h (Z5 c2);exact {h with
  tl:=e1
  p0:=e2
  p1:=e3
  pc:=fun hm=>by dsimp only[SS.set]at hm;omega
  n0:=fun hm=>by dsimp only[SS.set]at hm;omega
  nw:=fun c ty e=>by
   dsimp only at e;cases hn':S.now with
   | none=>rw[hn']at e;cases e
   | some q=>
    obtain⟨c0,ty0⟩:=q;rw[hn']at e;simp only[Option.map_some,ZL,YP]at e;obtain⟨rfl,rfl⟩:=e;refine⟨(h.nw _ _ hn').1,?_⟩;have:=hn _ _ hn';simp;omega}
theorem ku{h:Hi}(g:qP h):jF h=0:=by
 obtain⟨h1,h2,h3,h4,h5,h6,h7,h8⟩:=g;unfold jF;rw[if_neg QQ,if_neg];simp only[Bool.not_eq_true,Bool.or_eq_false_iff,Ke,ZG,List.any_eq_false,Xe];refine⟨⟨fun x hx=>?_,QQ⟩,QQ⟩;obtain⟨i,hi,e⟩:=XN.1 hx;have:=h6 i hi;rw[Ab hi,e]at this;omega
theorem QQ7{h:Hi}{xs:List Int}(g:jF h=0)(hx:xs.length<=200):jF (qj h xs)=0:=by
 obtain⟨h1,h2,h3,h4,h5,h6,h7,h8⟩:=qK g;have hlen:((zC h xs).length:Int)<=h.most:=by
  unfold zC;split
  ·exact h3
  ·split
   ·simp;omega
   ·simp;omega
 have hin:∀l∈zC h xs,l.length<=200:=by
  have Ti:∀l∈h.ls,l.length<=200:=fun l hl=>by
   obtain⟨i,hi,e⟩:=XN.1 hl;have:=h6 i hi
   rwa[Ab hi,e]at this
  have hin1:∀l∈h.ls++[xs],l.length<=200:=fun l hl=>by
   rcases XO.1 hl with h|h
   ·exact Ti l h
   ·rw[List.mem_singleton]at h;subst h;exact hx
  intro l hl;unfold zC at hl;split at hl
  ·exact Ti l hl
  ·split at hl
   ·exact hin1 l (List.mem_of_mem_drop hl)
   ·exact hin1 l hl
 exact ku ⟨h1,h2,hlen,by dsimp only[qj];omega,by dsimp only[qj];omega,fun i hi=>hin _ (by rw[Ab hi];exact YQ hi),by dsimp only[qj];simp,h8⟩
theorem Xz.accept{K:Nat}{S:SS}(h:Xz K S):Xz K S.accept:=by
 refine Xz.Js (S:={S.tell 2 S.text with XQ:=qj S.XQ S.text,now:=none}) ?_ [] 1 QJ (.inr rfl) rfl;exact {h with hi:=QQ7 h.hi h.tl,n0:=fun _=>rfl,nw:=fun c ty e=>QDk}
def MM(r:Hi×List Int×Int):Prop:=r.2.2=0->jF r.1=0/\r.2.1.length<=200
theorem Xz.moved{K:Nat}{S:SS}(h:Xz K S){r:Hi×List Int×Int}(hr:MM r)(hno:S.now=none):Xz K (S.moved r):=by
 unfold SS.moved;by_cases c:r.2.2≠0
 ·rw[if_pos c];exact h.Y2
 ·rw[if_neg c]
  obtain⟨e1,e2⟩:=hr (Z5 c);refine Xz.Js (S:={S with XQ:=r.1}) ?_ _ 0 e2 (.inl rfl) hno;exact {h with hi:=e1}
theorem PT{h:Hi}{xs:List Int}(g:qP h)(hx:xs.length<=200):(toS h xs).length<=200:=by
 unfold toS;split
 ·exact hx
 ·exact g.XU
theorem dH{h:Hi}{xs:List Int}{k:Nat}(g:qP h)(hx:xs.length<=200)(hk:k<=h.ls.length):qP (zP h xs k)/\(KA h xs k).length<=200:=by
 refine⟨⟨g.LD,g.UQ,g.len,by dsimp only[zP];omega,by dsimp only[zP];omega,g.lines,PT g hx,g.pat⟩,?_⟩;unfold KA;split
 ·exact PT g hx
 ·rcases Z9 k h.ls.length with h1|h1
  ·exact g.lines k h1
  ·omega
theorem gN{h:Hi}{n way:Int}{k:Nat}(g:qP h)(hn:0<=n)(e:VL h n way=some k):k<=h.ls.length:=by
 have:=g.VA;have:=g.Ut;unfold VL at e
 repeat' split at e
 all_goals first|(cases e;done)|(simp only[ZL]at e;omega)
theorem vV(h:Hi)(xs:List Int)(n way:Int):MM (qM h xs n way):=by
 intro hE;unfold qM at hE ⊢;by_cases c:Xl h xs.length n≠0
 ·rw[if_pos c]at hE;exact absurd hE c
 rw[if_neg c]at hE ⊢;obtain⟨g1,g2,g3,g4⟩:=Yp (Z5 c);cases hm:VL h n way with
 | none=>rw[hm]at hE;exact absurd hE QJ
 | some k=>
  have:=dH g1 g2 (gN g1 g3 hm);exact⟨ku this.1,this.2⟩
theorem Tz{h:Hi}{ps:List Int}(g:qP h)(hp:ps.length<=200):(VH h ps).length<=200:=by
 unfold VH;split
 ·exact g.pat
 ·exact hp
theorem Y7.ok{h:Hi}{xs ps:List Int}{ol:Bool}{h':Hi}{l:List Int}{E:Int}(r:Y7 h xs ps ol h' l E):MM (h',l,E):=by
 intro hE;dsimp only at hE;subst hE;rcases r with⟨a,b,c,d⟩|⟨a,b,c,d,e⟩|⟨a,b,c,d,e,f⟩|⟨a,b,c,k,hk,rfl,rfl,-⟩|⟨a,b,c,d,e,f,g⟩
 ·exact absurd d.symm a
 ·exact absurd e QZ
 ·exact absurd f QZ
 ·obtain⟨g1,g2,-⟩:=Yp a
  have:=dH (k:=k) g1 g2 (Xh hk.lt);obtain⟨⟨t1,t2,t3,t4,t5,t6,t7,t8⟩,t9⟩:=this;exact⟨ku ⟨t1,t2,t3,t4,t5,t6,t7,Tz g1 b⟩,t9⟩
 ·exact absurd g QZ
theorem Y7.some(h:Hi)(xs ps:List Int)(ol:Bool):∃h' l E,Y7 h xs ps ol h' l E:=by
 by_cases c1:Xl h xs.length 0≠0
 ·exact⟨_,_,_,.inl ⟨c1,rfl,rfl,rfl⟩⟩
 have c1:=Z5 c1;by_cases c2:200<ps.length
 ·exact⟨_,_,_,.inr (.inl ⟨c1,c2,rfl,rfl,rfl⟩)⟩
 by_cases c3:VH h ps=[]
 ·exact⟨_,_,_,.inr (.inr (.inl ⟨c1,QQ,c3,rfl,rfl,rfl⟩))⟩
 rcases lS (fun j=>Ju (VH h ps) (rx h.ls j)) ol h.Zm h.ls.length with⟨k,hk⟩|hk
 ·exact⟨_,_,_,.inr (.inr (.inr (.inl ⟨c1,QQ,c3,k,hk,rfl,rfl,rfl⟩)))⟩
 ·exact⟨_,_,_,.inr (.inr (.inr (.inr ⟨c1,QQ,c3,hk,rfl,rfl,rfl⟩)))⟩
theorem Gf(h:Hi)(xs ps:List Int)(ol:Bool):Y7 h xs ps ol (Dj h xs ps ol).1 (Dj h xs ps ol).2.1 (Dj h xs ps ol).2.2:=by
 obtain⟨a,b,c,d⟩:=Y7.some h xs ps ol;exact Classical.epsilon_spec (p:=fun r:Hi×List Int×Int=>Y7 h xs ps ol r.1 r.2.1 r.2.2) ⟨(a,b,c),d⟩
theorem QQa{h:Hi}{xs ps:List Int}{ol:Bool}{h':Hi}{l:List Int}{E:Int}(r:Y7 h xs ps ol h' l E):Dj h xs ps ol=(h',l,E):=by
 obtain⟨e1,e2,e3⟩:=(Gf h xs ps ol).unique r;exact Prod.ext e1 (Prod.ext e2 e3)
theorem QQT(h:Hi)(xs ps:List Int)(ol:Bool):MM (Dj h xs ps ol):=(Gf h xs ps ol).ok
theorem G8(h:Hi)(xs:List Int)(tu:Bool):KN h xs tu (DL h xs tu).1 (DL h xs tu).2.1 (DL h xs tu).2.2:=by
 obtain⟨a,b,c,d⟩:=Y7.some h xs [] (h.older !=tu);exact Classical.epsilon_spec (p:=fun r:Hi×List Int×Int=>KN h xs tu r.1 r.2.1 r.2.2) ⟨(if c=0 then⟨a.ls,a.most,a.Zm,a.XU,a.pat,h.older⟩else a,b,c),a,d,rfl⟩
theorem Rh{h:Hi}{xs:List Int}{tu:Bool}{h':Hi}{l:List Int}{E:Int}(r:KN h xs tu h' l E):DL h xs tu=(h',l,E):=by
 obtain⟨e1,e2,e3⟩:=(G8 h xs tu).unique r;exact Prod.ext e1 (Prod.ext e2 e3)
theorem QQ6(h:Hi)(xs:List Int)(tu:Bool):MM (DL h xs tu):=by
 intro hE;obtain⟨h1,r1,r2⟩:=G8 h xs tu;have:=r1.ok hE;rw[if_pos hE]at r2;rw[r2];refine⟨?_,this.2⟩;have g:=qK this.1;exact ku ⟨g.LD,g.UQ,g.len,g.VA,g.Ut,g.lines,g.XU,g.pat⟩
theorem Xz.back{K:Nat}{S:SS}(h:Xz K S)(hm:S.mode=0):Xz K S.back:=by
 unfold SS.back;by_cases c:S.past.length=0
 ·rw[if_pos c];exact h.Y2
 rw[if_neg c];have hne:S.past≠[]:=fun e=>c QDz
 have hl:=h.ps _ (List.getLast_mem hne);rw[<-Option.getD_some (a:=S.past.getLast hne) (b:=([],0)),<-List.getLast?_eq_some_getLast hne]at hl;exact {h with
  tl:=hl.1
  p0:=hl.2.1
  p1:=Qo
  pc:=fun _=>hl.2.2
  pl:=by have:=h.pl;dsimp only;rw[List.length_dropLast];omega
  ps:=fun e he=>h.ps e (List.dropLast_subset _ he)}
theorem Xz.Kv{K:Nat}{S:SS}(h:Xz K S)(hm:S.mode=0):Xz K S.Kv:=by
 unfold SS.Kv;by_cases c:S.text=S.first
 ·rw[if_pos c];exact h.Y2
 rw[if_neg c];have hs:=h.save (.inl hm);exact {hs with tl:=h.fl,p0:=Int.le_refl _,p1:=by dsimp only;omega,pc:=fun _=>Qo}
theorem QQQ(W:World){K:Nat}{S:SS}(h:Xz K S)(hm:S.mode=0\/S.mode=3){w:World}{a:Option Addr}{c:Nat}{vs:List Value}(hc:S.text.length<=c)(hc2:c<=9223372036854775807)(hi:Ints w a S.text)(h0:a=none->S.text.length=0)(hr:EN w vs S.regs):
  Je ⟨w,a,S.text.length,c,S.text,S.pos.toNat,vs,S.regs⟩:=
 {len:=rfl,top:=h.tl,cap:=hc,cap2:=hc2,ints:=hi,none:=h0,bH:=hr,small:=fun i hi=>Zf (h.rs i hi) QZ,k1:=by have:=h.pc hm;have:=h.p0;dsimp only;omega}
theorem RH(W:World){K:Nat}{S:SS}(h:Xz K S)(hm:S.mode=0\/S.mode=3):MN (iF W S):=
 {len:=rfl,top:=h.tl,lx:=h.rl,k1:=by have:=h.pc hm;have:=h.p0;dsimp only[iF];omega}
theorem Xz.Kz{W:World}{K:Nat}{S:SS}(h:Xz K S)(hm:S.mode=0)(c:C5)(hc:Km c):Xz K (S.Kz W c).1/\((S.Kz W c).1.mode=0\/(S.Kz W c).1.mode=1\/(S.Kz W c).1.mode=2)/\((S.Kz W c).2=true->∀c' ty,(S.Kz W c).1.now=some (c',ty)->S.now=none->ty=[]):=by
 unfold SS.Kz;by_cases c1:(S.vG W c).1≠0
 ·rw[if_pos c1]
  exact⟨h.Y2,.inl hm,fun e=>QDk⟩
 rw[if_neg c1];have hr:=mJ (RH W h (.inl hm)) h.rs (Z5 c1);have hr:Vg (iF W S) (S.vG W c).2:=hr;generalize(S.vG W c).2=s at *;dsimp only;have hs:=(h.save (.inl hm)).ins;have h1:Xz K {(if kH c=true then {S.save with now:=some (c,[])}else S)with mode:=1}:=by
  by_cases hch:kH c=true
  ·rw[if_pos hch]
   exact {hs with
    n0:=fun e=>by dsimp only at e;omega
    nw:=fun c' ty e=>by
     dsimp only at e;simp only[ZL,YP]at e;obtain⟨rfl,rfl⟩:=e;exact⟨hc,Z4 _⟩}
  ·rw[if_neg hch]
   exact h.ins
 have hn:∀c' ty,(if kH c=true then {S.save with now:=some (c,[])}else S).now=some (c',ty)->S.now=none->ty=[]:=by
  intro c' ty e e2;split at e
  ·dsimp only at e
   simp only[ZL,YP]at e;exact e.2.symm
  ·rw[e2]at e;cases e
 generalize(if kH c=true then {S.save with now:=some (c,[])}else S)=S1 at *;have h2:∀q l,((s.md=0\/s.md=3)->q=none)->(∀c' ty,q=some (c',ty)->Km c'/\ty.length<=K)->(∀c' ty,l=some (c',ty)->Km c'/\ty.length<=K)->Xz K {S1 with text:=s.O,pos:=s.p,regs:=s.Y,fk:=s.fk,fa:=s.fa,mode:=s.md,now:=q,last:=l}:=fun q l hq hqn hql=>
  {
   h1 with
   tl:=hr.len
   p0:=hr.p0
   p1:=hr.p1
   pc:=fun e=>hr.pc (by dsimp only at e;have:=hr.md;omega)
   n0:=hq
   md:=by have:=hr.md;dsimp only;omega
   rl:=hr.ly
   rs:=hr.ys
   la:=hql
   nw:=hqn}
 by_cases hmn:s.md=0/\S1.now.isSome=true
 ·rw[if_pos hmn]
  exact⟨h2 none S1.now (fun _=>rfl) (fun c' ty e=>QDk) h1.nw,hr.md,fun _ c' ty e=>QDk⟩
 ·rw[if_neg hmn]
  refine⟨h2 S1.now S1.last (fun e=>?_) h1.nw h1.la,hr.md,fun _=>hn⟩;have e0:s.md=0:=by have:=hr.md;omega
  cases hs:S1.now with
  | none=>rfl
  | some q=>exact absurd ⟨e0,by rw[hs];rfl⟩ hmn
theorem SA{S:SS}{key:Int}{K:Nat}(h:∀c ty,S.now=some (c,ty)->ty.length<=K):∀c ty,(S.typed key).now=some (c,ty)->ty.length<=K+1:=by
 intro c ty e;unfold SS.typed at e;split at e
 ·cases e
 split at e
 ·exact Nat.le_succ_of_le (h c ty e)
 ·dsimp only at e
  cases hn:S.now with
  | none=>rw[hn]at e;cases e
  | some q=>
   obtain⟨c0,ty0⟩:=q;rw[hn]at e;simp only[Option.map_some,ZL,YP]at e;obtain⟨rfl,rfl⟩:=e;have:=h _ _ hn;simp;omega
theorem Xz.Vw{K:Nat}:∀(l:List Int) (S:SS) (j:Nat),Xz K S->(∀c ty,S.now=some (c,ty)->ty.length<=j)->j+l.length<=K->Xz K (l.foldl SS.typed S)
 | [],S,_,h,_,_=>h
 | x::l,S,j,h,hj,hK=>by
  rw[Xq]at hK;exact Xz.Vw l (S.typed x) (j+1) (h.typed x fun c ty e=>by have:=hj c ty e;omega) (SA hj) QQ
theorem Xz.again{W:World}{K:Nat}{S:SS}(h:Xz K S)(hm:S.mode=0)(hno:S.now=none)(n:Int)(hn:n<=999):Xz K (S.again W n):=by
 unfold SS.again;cases hl:S.last with
 | none=>exact h.Y2
 | some q=>
  obtain⟨c,ty⟩:=q;obtain⟨hc,hty⟩:=h.la c ty hl;dsimp only;have hc':Km (if 0<n then {c with a:=n}else c):=by
   unfold Km at *;split
   ·dsimp only;omega
   ·exact hc
  obtain⟨g1,g2,g3⟩:=h.Kz (W:=W) hm _ hc';generalize(S.Kz W (if 0<n then {c with a:=n}else c))=r at *;by_cases c1:r.2=false\/r.1.mode=0
  ·rw[if_pos c1];exact g1
  ·rw[if_neg c1]
   have hj:∀c ty,r.1.now=some (c,ty)->ty.length<=0:=fun c' ty' e=>by rw[g3 (by cases hh:r.2<;>simp_all) c' ty' e hno];exact ZB _
   have:=Xz.Vw ty r.1 0 g1 hj QQ;unfold SS.typed;rw[if_pos rfl];exact this.leave
theorem Xz.command{W:World}{K:Nat}{S:SS}(h:Xz K S)(hm:S.mode=0)(hno:S.now=none)(c:C5)(hc:Km c):Xz K (S.command W c):=by
 unfold SS.command;split
 ·exact(h.Kz hm c hc).1
 split
 ·exact h.back hm
 split
 ·exact h.Kv hm
 split
 ·exact h.again hm hno c.a hc.2
 split
 ·exact h.moved (vV _ _ _ _) hno
 split
 ·exact h.moved (vV _ _ _ _) hno
 split
 ·exact h.moved (vV _ _ _ _) hno
 split
 ·exact h.moved (QQ6 _ _ _) hno
 split
 ·exact {h with pc:=fun _=>h.pc (.inl hm),n0:=fun _=>hno,md:=.inr (.inr (.inr rfl)),al:=by simp}
 ·exact(h.Kz hm c hc).1
theorem Xz.asked{K:Nat}{S:SS}(h:Xz K S)(hm:S.mode=3)(key:Int):Xz K (S.asked key):=by
 have h0:Xz K {S with mode:=0}:={h with pc:=fun _=>h.pc (.inr hm),n0:=fun _=>h.n0 (.inr hm),md:=.inl rfl};unfold SS.asked;split
 ·exact h0.moved (QQT _ _ _ _) (h.n0 (.inr hm))
 split
 ·exact h0
 split
 ·split
  ·exact h0
  ·exact {h with al:=by have:=h.al;dsimp only;rw[List.length_dropLast];omega}
 split
 ·exact h.Y2
 ·rename_i c4
  exact {h with al:=by have:=h.al;dsimp only;rw[ZN,List.length_singleton];omega}
theorem Vx{f r o s wt:Int}:Yl f r o s wt=0↔(0<=f/\f<=999/\0<=s/\s<=999/\(o≠0\/s=0))/\(r=0\/DZ r=true)/\(o=0\/Rq o=true)/\(wt=0\/zA wt=true\/(wt=114/\o=0)\/(wt=34/\o=0/\r=0)\/(vB wt=true/\o≠0)):=by
 unfold Yl;constructor
 ·intro h
  split at h
  ·rename_i h1
   simp only[yX,BX,uB,Bool.and_eq_true,Bool.or_eq_true,Xe]at h1;obtain⟨⟨h2,h3,h4⟩,h5⟩:=h1;refine⟨h2,h3,h4,?_⟩;rcases h5 with(((h5|h5)|h5)|h5)|h5
   ·exact .inl h5
   ·exact .inr (.inl h5)
   ·exact .inr (.inr (.inl h5))
   ·exact .inr (.inr (.inr (.inl h5)))
   ·exact .inr (.inr (.inr (.inr h5)))
  ·exact absurd h QZ
 ·rintro⟨h2,h3,h4,h5⟩
  rw[if_pos];simp only[yX,BX,uB,Bool.and_eq_true,Bool.or_eq_true,Xe];refine⟨⟨h2,h3,h4⟩,?_⟩;rcases h5 with h5|h5|h5|h5|h5
  ·exact .inl (.inl (.inl (.inl h5)))
  ·exact .inl (.inl (.inl (.inr h5)))
  ·exact .inl (.inl (.inr h5))
  ·exact .inl (.inr h5)
  ·exact .inr h5
theorem mW{f k:Int}(h:0<=f/\f<=999)(hk:48<=k/\k<=57):0<=Ue f k/\Ue f k<=999:=by unfold Ue;omega
theorem QX2{f s:Int}(h:0<=f/\f<=999)(g:0<=s/\s<=999):0<=Wo f s/\Wo f s<=999:=by
 have:=gM h.1 h.2 g.1 g.2;unfold Wo;split
 ·exact g
 split
 ·exact h
 ·omega
theorem tL(f r o s key:Int):(Jw f r o s key=1->48<=key/\key<=57)/\(Jw f r o s key=2->key=34/\o=0/\r=0)/\(Jw f r o s key=3->Rq key=true)/\(Jw f r o s key=4->zA key=true)/\(Jw f r o s key=7->key=114/\o=0)/\(Jw f r o s key=8->vB key=true/\o≠0):=by
 unfold Jw;by_cases c1:Ml (if o≠0 then s else f) key=true
 ·rw[if_pos c1]
  unfold Ml at c1;rw[Xe]at c1;exact⟨fun _=>QQ,fun h=>QQ,fun h=>QQ,fun h=>QQ,fun h=>QQ,fun h=>QQ⟩
 rw[if_neg c1];by_cases c2:Rq key=true
 ·rw[if_pos c2];exact⟨fun h=>QQ,fun h=>QQ,fun h=>c2,fun h=>QQ,fun h=>QQ,fun h=>QQ⟩
 rw[if_neg c2];by_cases c3:moB key=true
 ·rw[if_pos c3];exact⟨fun h=>QQ,fun h=>QQ,fun h=>QQ,fun h=>QQ,fun h=>QQ,fun h=>QQ⟩
 rw[if_neg c3];by_cases c4:zA key=true
 ·rw[if_pos c4];exact⟨fun h=>QQ,fun h=>QQ,fun h=>QQ,fun h=>c4,fun h=>QQ,fun h=>QQ⟩
 rw[if_neg c4];by_cases c5:vB key=true
 ·rw[if_pos c5]
  by_cases c6:o≠0
  ·rw[if_pos c6];exact⟨fun h=>QQ,fun h=>QQ,fun h=>QQ,fun h=>QQ,fun h=>QQ,fun h=>⟨c5,c6⟩⟩
  ·rw[if_neg c6];exact⟨fun h=>QQ,fun h=>QQ,fun h=>QQ,fun h=>QQ,fun h=>QQ,fun h=>QQ⟩
 rw[if_neg c5];by_cases c6:o≠0
 ·rw[if_pos c6];exact⟨fun h=>QQ,fun h=>QQ,fun h=>QQ,fun h=>QQ,fun h=>QQ,fun h=>QQ⟩
 rw[if_neg c6];have c6:o=0:=Z5 c6;by_cases c7:key=34
 ·rw[if_pos c7]
  by_cases c8:r≠0
  ·rw[if_pos c8];exact⟨fun h=>QQ,fun h=>QQ,fun h=>QQ,fun h=>QQ,fun h=>QQ,fun h=>QQ⟩
  ·rw[if_neg c8];exact⟨fun h=>QQ,fun h=>⟨c7,c6,Z5 c8⟩,fun h=>QQ,fun h=>QQ,fun h=>QQ,fun h=>QQ⟩
 rw[if_neg c7];by_cases c8:key=114
 ·rw[if_pos c8];exact⟨fun h=>QQ,fun h=>QQ,fun h=>QQ,fun h=>QQ,fun h=>⟨c8,c6⟩,fun h=>QQ⟩
 rw[if_neg c8];split<;>exact⟨fun h=>QQ,fun h=>QQ,fun h=>QQ,fun h=>QQ,fun h=>QQ,fun h=>QQ⟩
def Rm(t:TK):Prop:=Yl t.q0 t.q1 t.q2 t.q3 t.q4=0/\Km t.cmd
theorem qh:Rm TK.wrong:=⟨Ap,by unfold Km TK.cmd TK.wrong;dsimp only;omega⟩
theorem vF{f r o s v a:Int}(h:0<=f/\f<=999)(g:0<=s/\s<=999):Rm (TK.done f r o s v a):=⟨Ap,QX2 h g⟩
theorem yh{f r o s wt:Int}(h:Yl f r o s wt=0):Rm (TK.more f r o s wt):=⟨h,by unfold Km TK.cmd TK.more;dsimp only;omega⟩
theorem Ew{f r o s wt key:Int}(h:Yl f r o s wt=0):Rm (YV f r o s wt key):=by
 obtain⟨⟨h1,h2,h3,h4,h5⟩,h6,h7,h8⟩:=Vx.1 h;obtain⟨k1,k2,k3,k4,k7,k8⟩:=tL f r o s key;unfold YV;split
 ·exact qh
 split
 ·rename_i hw
  unfold VW;by_cases aY:wt=34
  ·rw[if_pos aY]
   by_cases hl:DZ key=true
   ·rw[if_pos hl]
    have ho:o=0:=by
     subst aY;rcases h8 with h8|h8|h8|h8|h8
     ·omega
     ·exact absurd h8 QZ
     ·omega
     ·exact h8.2.1
     ·exact absurd h8.1 QZ
    exact yh (Vx.2 ⟨⟨h1,h2,h3,h4,h5⟩,.inr hl,h7,.inl rfl⟩)
   ·rw[if_neg hl];exact qh
  rw[if_neg aY];split
  ·split
   ·exact vF ⟨h1,h2⟩ ⟨h3,h4⟩
   ·exact qh
  ·exact vF ⟨h1,h2⟩ ⟨h3,h4⟩
 split
 ·rename_i hk
  have:=k1 hk;split
  ·rename_i ho
   have:=mW (f:=s) ⟨h3,h4⟩ this;exact yh (Vx.2 ⟨⟨h1,h2,this.1,this.2,.inl ho⟩,h6,h7,.inl rfl⟩)
  ·have:=mW (f:=f) ⟨h1,h2⟩ this
   exact yh (Vx.2 ⟨⟨this.1,this.2,h3,h4,h5⟩,h6,h7,.inl rfl⟩)
 split
 ·rename_i hk
  refine yh (Vx.2 ⟨⟨h1,h2,h3,h4,h5⟩,h6,h7,?_⟩);rcases hk with hk|hk|hk|hk
  ·exact .inr (.inr (.inr (.inl (k2 hk))))
  ·exact .inr (.inl (k4 hk))
  ·exact .inr (.inr (.inl (k7 hk)))
  ·exact .inr (.inr (.inr (.inr (k8 hk))))
 split
 ·rename_i hk
  split
  ·rename_i ho
   exact yh (Vx.2 ⟨⟨h1,h2,h3,h4,QQ⟩,h6,.inr (k3 hk),.inl rfl⟩)
  split
  ·exact qh
  ·exact vF ⟨h1,h2⟩ ⟨h3,h4⟩
 split
 ·exact vF ⟨h1,h2⟩ ⟨h3,h4⟩
 ·exact qh
theorem Xz.key{W:World}{K:Nat}{S:SS}(h:Xz K S)(key:Int):Xz (K+1) (S.key W key):=by
 have hK:=h.mono (ZA K);unfold SS.key;split
 ·refine Xz.Js (S:={S.tell 3 []with now:=none,XQ:=⟨S.XQ.ls,S.XQ.most,S.XQ.ls.length,[],S.XQ.pat,S.XQ.older⟩}) ?_ [] 1 QJ (.inr rfl) rfl
  have g:=qK h.hi;exact {hK with hi:=ku ⟨g.LD,g.UQ,g.len,Qo,Qo,g.lines,QJ,g.pat⟩,n0:=fun _=>rfl,nw:=fun c ty e=>QDk}
 split
 ·rename_i hm;exact hK.asked hm key
 split
 ·exact hK.accept
 split
 ·split
  ·exact hK.Y2
  ·exact {hK with}
 split
 ·exact hK.typed key fun c ty e=>by have:=(h.nw c ty e).2;omega
 ·rename_i hm
  have hm:S.mode=0:=Z5 hm;have ht:=Ew (key:=key) h.pt;have h1:Xz (K+1) {S with part:=(S.JS key).part}:={hK with pt:=ht.1};dsimp only;split
  ·exact Xz.command (S:={S with part:=(S.JS key).part}) h1 hm (h.n0 (.inl hm)) _ ht.2
  split
  ·exact Xz.Y2 (S:={S with part:=(S.JS key).part}) h1
  ·exact h1
theorem mH(c:Int):Ug (cellS c)=false:=by
 unfold Ug cellS;split<;>simp<;>omega
theorem pV(t:List Int)(off width:Int)(p:Int)(h1:2<=width)(h2:width<=120)(h3:0<=p)(h4:p<=width):KS (Uk t off width) p=0:=by
 unfold KS;rw[JN,if_neg QQ,if_neg];rw[Bool.not_eq_true,List.any_eq_false];intro x hx;unfold Uk at hx;obtain⟨i,-,rfl⟩:=List.mem_map.1 hx;split
 ·rw[mH];decide
 ·decide
theorem Dt{p off width:Int}(h0:0<=p/\p<=200)(h1:0<=off/\off<=200)(h2:2<=width):0<=XT p off width/\XT p off width<=200/\0<=p-XT p off width/\p-XT p off width<width:=by
 unfold XT;split
 ·omega
 split<;>omega
theorem Xz.show{K:Nat}{S:SS}(h:Xz K S):Xz K S.show:=by
 have h1:=h.p0;have h2:=h.p1;have h3:=h.tl;have h4:=h.wd;have hs:=Dt (p:=S.pos) (off:=S.off) (width:=S.width) ⟨h1,QQ⟩ h.o0 h4.1;exact {h with
  o0:=⟨hs.1,hs.2.1⟩
  rw_:=by dsimp only[SS.show];rw[JN];omega
  re:=by dsimp only[SS.show];exact pV _ _ _ _ h4.1 h4.2 hs.2.2.1 QQ}
theorem Xz.step{W:World}{K:Nat}{S:SS}(h:Xz K S)(key:Int):Xz (K+1) (S.step W key):=by
 unfold SS.step;split
 ·exact h.mono (ZA K)
 ·exact(h.key key).show
theorem Xz.keys{W:World}:∀(l:List Int) {K:Nat} {S:SS},Xz K S->Xz (K+l.length) (S.keys W l)
 | [],K,S,h=>h
 | x::l,K,S,h=>by
  have:=Xz.keys (W:=W) l (h.step (W:=W) x);rw[Xq,show K+(l.length+1)=K+1+l.length from QQ];exact this
theorem Xz.new{most width:Int}(h1:1<=most)(h2:most<=50)(h3:2<=width)(h4:width<=120):Xz 0 (SS.new most width):=
 {tl:=Z4 _,p0:=Int.le_refl _,p1:=Int.le_refl _,pc:=fun _=>by dsimp only[SS.new];omega,n0:=fun _=>rfl,md:=.inr (.inl rfl),rl:=by simp[SS.new],rs:=fun i hi=>by
   unfold SS.new rx;rw[Zg];dsimp only;rw[List.getElem?_replicate,if_pos hi];exact Z4 _
  pt:=Ap,hi:=ku ⟨h1,h2,by simp[SS.new];omega,by simp[SS.new],by simp[SS.new],fun i hi=>by simp[SS.new]at hi,by simp[SS.new],by simp[SS.new]⟩
  pl:=Z4 _,ps:=fun e he=>QEA
  fl:=Z4 _,la:=fun c ty e=>QDk
  nw:=fun c ty e=>QDk
  al:=Z4 _,o0:=by dsimp only[SS.new];omega,wd:=⟨h3,h4⟩,rw_:=by simp[SS.new];omega
  re:=by
   unfold SS.new KS;simp only[YD];rw[if_neg QQ,if_neg];rw[Bool.not_eq_true,List.any_eq_false];intro x hx;rw[List.mem_replicate]at hx;rw[hx.2];decide}
structure Tl (n:Nat) (S S':SS):Prop where
 told:∃m:List (Int×List Int),S'.told=S.told++m/\m.length<=n/\∀e∈m,e.1≠4/\e.2.length<=200
 over:S'.over=S.over
 most:S'.XQ.most=S.XQ.most
 Yv:S'.Yv=S.Yv
 width:S'.width=S.width
theorem Tl.of{S S':SS}(h1:S'.told=S.told)(h2:S'.over=S.over)(h3:S'.XQ.most=S.XQ.most)(h4:S'.Yv=S.Yv)(h5:S'.width=S.width):Tl 0 S S':=
 ⟨⟨[],by rw[h1,List.append_nil],ZB _,fun e he=>QEA⟩,h2,h3,h4,h5⟩
theorem Tl.trans{a b:Nat}{S T U:SS}(h:Tl a S T)(g:Tl b T U):Tl (a+b) S U:=by
 obtain⟨m,h1,h2,h3⟩:=h.told;obtain⟨k,g1,g2,g3⟩:=g.told;refine⟨⟨m++k,by rw[g1,h1,List.append_assoc],by rw[ZN];omega,fun e he=>?_⟩,g.over.trans h.over,g.most.trans h.most,g.Yv.trans h.Yv,g.width.trans h.width⟩;rcases XO.1 he with he|he
 ·exact h3 e he
 ·exact g3 e he
theorem Tl.mono{a b:Nat}{S T:SS}(h:Tl a S T)(hab:a<=b):Tl b S T:=by
 obtain⟨m,h1,h2,h3⟩:=h.told;exact⟨⟨m,h1,QQ,h3⟩,h.over,h.most,h.Yv,h.width⟩
theorem Tl.any{n:Nat}{S S':SS}(h1:S'.told=S.told)(h2:S'.over=S.over)(h3:S'.XQ.most=S.XQ.most)(h4:S'.Yv=S.Yv)(h5:S'.width=S.width):Tl n S S':=(Tl.of h1 h2 h3 h4 h5).mono (Z4 _)
theorem Tl.refl(S:SS):Tl 0 S S:=Tl.of rfl rfl rfl rfl rfl
theorem Tl.tell(S:SS)(k:Int)(l:List Int)(hk:k≠4)(hl:l.length<=200):Tl 1 S (S.tell k l):=
 ⟨⟨[(k,l)],rfl,ZB _,fun e he=>by obtain rfl:=List.mem_singleton.1 he;exact⟨hk,hl⟩⟩,rfl,rfl,rfl,rfl⟩
theorem Tl.Y2(S:SS):Tl 1 S S.Y2:=Tl.tell S 1 [] QZ QJ
theorem Tl.leave(S:SS):Tl 0 S S.leave:=Tl.of rfl rfl rfl rfl rfl
theorem Tl.typed(S:SS)(key:Int):Tl 1 S (S.typed key):=by
 unfold SS.typed;split
 ·exact(Tl.leave S).mono QQ
 ·split
  ·exact Tl.Y2 S
  ·exact Tl.any rfl rfl rfl rfl rfl
theorem Tl.Vw:∀(l:List Int) (S:SS),Tl l.length S (l.foldl SS.typed S)
 | [],S=>Tl.refl S
 | k::l,S=>by
  have:=(Tl.typed S k).trans (Tl.Vw l (S.typed k));exact this.mono QY
theorem Tl.accept{K:Nat}{S:SS}(h:Xz K S):Tl 1 S S.accept:=
 ((Tl.tell S 2 S.text QZ h.tl).trans (Tl.of (S':=S.accept) rfl rfl rfl rfl rfl)).mono QQ
theorem Tl.moved(S:SS)(r:Hi×List Int×Int)(hr:r.2.2=0->r.1.most=S.XQ.most):Tl 1 S (S.moved r):=by
 unfold SS.moved;split
 ·exact Tl.Y2 S
 ·rename_i h
  exact Tl.any rfl rfl (hr (Z5 h)) rfl rfl
theorem Tl.back(S:SS):Tl 1 S S.back:=by
 unfold SS.back;exact QIm
theorem Tl.Kv(S:SS):Tl 1 S S.Kv:=by
 unfold SS.Kv;exact QIm
theorem Tl.Kz(W:World)(S:SS)(c:C5):Tl 1 S (S.Kz W c).1:=by
 unfold SS.Kz;split
 ·exact Tl.Y2 S
 ·dsimp only
  split<;>split<;>exact Tl.any rfl rfl rfl rfl rfl
theorem Tl.again{W:World}{K:Nat}{S:SS}(h:Xz K S)(n:Int):Tl (K+2) S (S.again W n):=by
 unfold SS.again;split
 ·exact(Tl.Y2 S).mono QQ
 ·rename_i c ty he
  have h1:=(h.la c ty he).2;dsimp only;generalize(if 0<n then({c with a:=n}:C5)else c)=c';split
  ·exact Tl.mono (a:=1) (Tl.Kz W S _) QQ
  ·exact Tl.mono (a:=1+ty.length+1) (((Tl.Kz W S _).trans (Tl.Vw ty _)).trans (Tl.typed _ 27)) QQ
theorem jl(h:Hi)(xs:List Int)(n way:Int)(e:(qM h xs n way).2.2=0):(qM h xs n way).1.most=h.most:=by
 unfold qM at e ⊢;split
 ·rename_i h1
  rw[if_pos h1]at e;exact absurd e h1
 ·rename_i h1
  rw[if_neg h1]at e;split
  ·rename_i h2
   rw[h2]at e;exact absurd (show(5:Int)=0 from e) QZ
  ·rfl
theorem Y7.most{h:Hi}{xs ps:List Int}{ol:Bool}{h':Hi}{l:List Int}{E:Int}(r:Y7 h xs ps ol h' l E)(e:E=0):h'.most=h.most:=by
 subst e;rcases r with⟨h1,_,_,h2⟩|⟨_,_,_,_,h2⟩|⟨_,_,_,_,_,h2⟩|⟨_,_,_,k,_,rfl,_,_⟩|⟨_,_,_,_,_,_,h2⟩
 ·exact absurd h2.symm h1
 ·exact absurd h2 QZ
 ·exact absurd h2 QZ
 ·rfl
 ·exact absurd h2 QZ
theorem ay(h:Hi)(xs ps:List Int)(ol:Bool)(e:(Dj h xs ps ol).2.2=0):(Dj h xs ps ol).1.most=h.most:=(Gf h xs ps ol).most e
theorem aO(h:Hi)(xs:List Int)(tu:Bool)(e:(DL h xs tu).2.2=0):(DL h xs tu).1.most=h.most:=by
 obtain⟨h1,hf,he⟩:=G8 h xs tu;have hm:=hf.most e;rw[he,if_pos e];exact hm
theorem Tl.command{W:World}{K:Nat}{S:SS}(h:Xz K S)(c:C5):Tl (K+2) S (S.command W c):=by
 unfold SS.command;split
 ·exact(Tl.Kz W S c).mono QQ
 split
 ·exact(Tl.back S).mono QQ
 split
 ·exact(Tl.Kv S).mono QQ
 split
 ·exact Tl.again h c.a
 split
 ·exact(Tl.moved S _ (jl _ _ _ _)).mono QQ
 split
 ·exact(Tl.moved S _ (jl _ _ _ _)).mono QQ
 split
 ·exact(Tl.moved S _ (jl _ _ _ _)).mono QQ
 split
 ·exact(Tl.moved S _ (aO _ _ _)).mono QQ
 split
 ·exact Tl.any rfl rfl rfl rfl rfl
 ·exact(Tl.Kz W S c).mono QQ
theorem Tl.asked(S:SS)(key:Int):Tl 1 S (S.asked key):=by
 unfold SS.asked;split
 ·have:=Tl.moved {S with mode:=0} _ (ay S.XQ S.text S.ask S.older)
  exact⟨this.told,this.over,this.most,this.Yv,this.width⟩
 split
 ·exact Tl.any rfl rfl rfl rfl rfl
 split
 ·split<;>exact Tl.any rfl rfl rfl rfl rfl
 exact QIm
theorem Ns{W:World}{K:Nat}{S:SS}(h:Xz K S)(key:Int):Tl (K+2) S (S.key W key)\/(S.key W key={S.tell 4 []with over:=true}):=by
 unfold SS.key;split
 ·exact .inl (Tl.mono (a:=1+0) ((Tl.tell S 3 [] QZ QJ).trans (Tl.of rfl rfl rfl rfl rfl)) QQ)
 split
 ·exact .inl ((Tl.asked S key).mono QQ)
 split
 ·exact .inl ((Tl.accept h).mono QQ)
 split
 ·split
  ·exact .inl ((Tl.Y2 S).mono QQ)
  ·exact .inr rfl
 split
 ·exact .inl ((Tl.typed S key).mono QQ)
 dsimp only;have hk:Xz K {S with part:=(S.JS key).part}:={h with pt:=(Ew h.pt).1};split
 ·exact .inl (Tl.mono (a:=0+(K+2)) ((Tl.of (S:=S) (S':={S with part:=(S.JS key).part}) rfl rfl rfl rfl rfl).trans (Tl.command hk _)) QQ)
 split
 ·exact .inl (Tl.mono (a:=0+1) ((Tl.of (S:=S) (S':={S with part:=(S.JS key).part}) rfl rfl rfl rfl rfl).trans (Tl.Y2 _)) QQ)
 ·exact .inl (Tl.any rfl rfl rfl rfl rfl)
structure Tk (n:Nat) (S S':SS):Prop where
 told:∃m:List (Int×List Int),S'.told=S.told++m/\m.length<=n/\(∀e∈m,e.2.length<=200)/\((S'.over=false/\∀e∈m,e.1≠4)\/(S'.over=true/\∃k,m=k++[(4,[])]/\∀e∈k,e.1≠4))
 most:S'.XQ.most=S.XQ.most
 width:S'.width=S.width
theorem SL{W:World}{S:SS}(h:S.over=true)(key:Int):S.step W key=S:=by unfold SS.step;rw[if_pos h]
theorem kZ{W:World}:∀(l:List Int) {S:SS},S.over=true->S.keys W l=S
 | [],S,h=>rfl
 | k::l,S,h=>by
  show(S.step W k).keys W l=S
  rw[SL h];exact kZ l h
theorem vk{W:World}:∀(l:List Int) {K:Nat} {S:SS},Xz K S->S.over=false->∀M,K+l.length<=M->Tk (l.length*(M+2)) S (S.keys W l)
 | [],K,S,h,ho,M,hM=>⟨⟨[],(by rw[List.append_nil];rfl),Z4 _,fun e he=>QEA,.inl ⟨ho,fun e he=>QEA⟩⟩,rfl,rfl⟩
 | k::l,K,S,h,ho,M,hM=>by
  have hs:S.keys W (k::l)=(S.step W k).keys W l:=rfl;have hst:S.step W k=(S.key W k).show:=by unfold SS.step;rw[ho];rfl
  have hi:=h.step (W:=W) k;rw[hs];rw[Xq]at hM;have hmul:(l.length+1)*(M+2)=l.length*(M+2)+(M+2):=by rw[Nat.add_mul,Nat.one_mul]
  rcases Ns (W:=W) h k with ht|ht
  ·have ho2:(S.step W k).over=false:=by rw[hst];exact ht.over.trans ho
   have ih:=vk (W:=W) l hi ho2 M QQ;obtain⟨m,h1,h2,h3⟩:=ht.told;obtain⟨m2,g1,g2,g3,g4⟩:=ih.told;have e1:(S.step W k).told=S.told++m:=by rw[hst];exact h1
   refine⟨⟨m++m2,by rw[g1,e1,List.append_assoc],by rw[ZN,Xq,hmul];omega,fun e he=>?_,?_⟩,ih.most.trans ?_,ih.width.trans ?_⟩
   ·rcases XO.1 he with he|he
    ·exact(h3 e he).2
    ·exact g3 e he
   ·rcases g4 with⟨o,q⟩|⟨o,j,rfl,q⟩
    ·refine .inl ⟨o,fun e he=>?_⟩
     rcases XO.1 he with he|he
     ·exact(h3 e he).1
     ·exact q e he
    ·refine .inr ⟨o,m++j,by rw[List.append_assoc],fun e he=>?_⟩
     rcases XO.1 he with he|he
     ·exact(h3 e he).1
     ·exact q e he
   ·rw[hst];exact ht.most
   ·rw[hst];exact ht.width
  ·have ho2:(S.step W k).over=true:=by rw[hst,ht];rfl
   rw[kZ l ho2,hst,ht];refine⟨⟨[(4,[])],rfl,(by show 0+1<=(l.length+1)*(M+2);rw[hmul];omega),fun e he=>(by obtain rfl:=List.mem_singleton.1 he;simp),.inr ⟨rfl,[],rfl,fun e he=>QEA⟩⟩,rfl,rfl⟩
def pU:ByteArray:=⟨#[97,98,32,99,100,27,48,100,119]⟩
def wk2:ByteArray:=⟨#[117]⟩
def wk3:ByteArray:=⟨#[46,13]⟩
noncomputable def wS1(W:World):SS:=((SS.new 5 10).feed W pU).1
noncomputable def wS2(W:World):SS:=((wS1 W).feed W wk2).1
noncomputable def wS3(W:World):SS:=((wS2 W).feed W wk3).1
theorem QXl(W:World):((SS.new 5 10).feed W pU).2=0/\(wS1 W).told=[]/\(wS1 W).text=[99,100]:=⟨QX,QX,QX⟩
theorem QXi(W:World):((wS1 W).feed W wk2).2=0/\(wS2 W).told=[]/\(wS2 W).text=[97,98,32,99,100]:=⟨QX,QX,QX⟩
theorem QXh(W:World):((wS2 W).feed W wk3).2=0/\(wS3 W).told=[(2,[99,100])]/\(wS3 W).XQ.ls.length=1:=⟨QX,QX,QX⟩
end Go.Proofs.YtmdnepkekekncaaGreat
