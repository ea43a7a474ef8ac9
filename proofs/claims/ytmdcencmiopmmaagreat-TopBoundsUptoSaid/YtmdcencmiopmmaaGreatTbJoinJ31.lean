/- LiftTopBounds: joined, no condition of its own. -/
import Derived.Test.YtmdcencmiopmmaaGreatTbJoinT
import Derived.Test.YtmdcencmiopmmaaGreatTbJoinJ30
set_option linter.unusedVariables false
set_option linter.unusedSimpArgs false
set_option maxRecDepth 100000
set_option maxHeartbeats 12000000
namespace Go.Proofs.YtmdcencmiopmmaaGreat
open Go.RowKit
def Uq(c:C5):Prop:=0<=c.a/\c.a<=999
structure Qt (K:Nat) (S:SS):Prop where
 tl:S.text.length<=200
 p0:0<=S.pos
 p1:S.pos<=S.text.length
 pc:S.mode=0\/S.mode=3->S.pos<=max 0 ((S.text.length:Int)-1)
 n0:S.mode=0\/S.mode=3->S.now=none
 md:S.mode=0\/S.mode=1\/S.mode=2\/S.mode=3
 rl:S.regs.length=27
 rs:∀i,i<27->(rx S.regs i).length<=200
 pt:YV S.part.a S.part.b S.part.c S.part.d S.part.e=0
 hi:qK S.Qh=0
 pl:S.past.length<=30
 ps:∀e∈S.past,e.1.length<=200/\0<=e.2/\e.2<=max 0 ((e.1.length:Int)-1)
 fl:S.first.length<=200
 la:∀c ty,S.last=some (c,ty)->Uq c/\ty.length<=K
 nw:∀c ty,S.now=some (c,ty)->Uq c/\ty.length<=K
 al:S.ask.length<=200
 o0:0<=S.off/\S.off<=200
 wd:2<=S.width/\S.width<=120
 rw_:(S.row.length:Int)=S.width
 re:JZ S.row S.rat=0
theorem Qt.mono{K K':Nat}{S:SS}(h:Qt K S)(hK:K<=K'):Qt K' S:=
 {h with la:=fun c ty e=>⟨(h.la c ty e).1,QL (h.la c ty e).2 hK⟩,nw:=fun c ty e=>⟨(h.nw c ty e).1,QL (h.nw c ty e).2 hK⟩}
theorem Qt.ins{K:Nat}{S:SS}(h:Qt K S):Qt K {S with mode:=1}:={h with pc:=fun e=>by dsimp only at e;omega,n0:=fun e=>by dsimp only at e;omega,md:=.inr (.inl rfl)}
theorem Qt.tell{K:Nat}{S:SS}(h:Qt K S)(k:Int)(l:List Int):Qt K (S.tell k l):={h with}
theorem Qt.Xa{K:Nat}{S:SS}(h:Qt K S):Qt K S.Xa:=h.tell 1 []
theorem Qt.leave{K:Nat}{S:SS}(h:Qt K S):Qt K S.leave:=
 {
  h with
  p0:=by dsimp only[SS.leave];omega
  p1:=by have:=h.p1;have:=h.p0;dsimp only[SS.leave];omega
  pc:=fun _=>by have:=h.p1;have:=h.p0;dsimp only[SS.leave];omega
  n0:=fun _=>rfl
  md:=.inl rfl
  la:=fun c ty e=>by
   dsimp only[SS.leave]at e;split at e
   ·exact h.nw c ty e
   ·exact h.la c ty e
  nw:=fun c ty e=>by cases e}
theorem Bh:YV 0 0 0 0 0=0:=by decide
theorem Qt.YP{K:Nat}{S:SS}(h:Qt K S)(t:List Int)(md:Int)(ht:t.length<=200)(hmd:md=0\/md=1)(hno:S.now=none):Qt K (S.YP t md):=
 {
  h with
  tl:=ht
  p0:=by dsimp only[SS.YP];split<;>omega
  p1:=by dsimp only[SS.YP];split<;>omega
  pc:=fun _=>by dsimp only[SS.YP];split<;>omega
  n0:=fun _=>hno
  md:=by dsimp only[SS.YP];omega
  pt:=Bh
  pl:=Qe _
  ps:=fun e he=>by cases he
  fl:=ht}
theorem Qt.save{K:Nat}{S:SS}(h:Qt K S)(hm:S.mode=0\/S.mode=3):Qt K S.save:=
 {
  h with
  pl:=by have:=h.pl;dsimp only[SS.save];simp;omega
  ps:=fun e he=>by
   have he:=List.mem_of_mem_drop he;rcases Zz.1 he with he|he
   ·exact h.ps e he
   ·rw[List.mem_singleton]at he
    subst he;exact⟨h.tl,h.p0,h.pc hm⟩}
theorem eU{t:List Int}{p md k b:Int}(ht:t.length<=200)(hp0:0<=p)(hp1:p<=t.length)(hb:0<=b/\(0<p->b<p))(he:(X7 t p md k b).2.2=0):
  (X7 t p md k b).1.length<=200/\0<=(X7 t p md k b).2.1/\(X7 t p md k b).2.1<=(X7 t p md k b).1.length/\(md=1\/md=2):=by
 unfold X7 at he ⊢;by_cases c1:200<t.length
 ·omega
 rw[if_neg c1]at he ⊢;by_cases c2:p<0\/(t.length:Int)<p\/(md≠1/\md≠2)
 ·rw[if_pos c2]at he;exact absurd he (by decide)
 rw[if_neg c2]at he ⊢;have hmd:md=1\/md=2:=by omega
 by_cases c3:32<=k/\k≠127
 ·rw[if_pos c3]at he ⊢
  by_cases c4:md=2/\p<t.length
  ·rw[if_pos c4]
   exact Qvd
  ·rw[if_neg c4]at he ⊢
   by_cases c5:t.length=200
   ·rw[if_pos c5]at he;exact absurd he (by decide)
   ·rw[if_neg c5]
    exact Qvd
 rw[if_neg c3]at he ⊢;by_cases c4:k≠8/\k≠127/\k≠21/\k≠23
 ·rw[if_pos c4]at he;exact absurd he (by decide)
 rw[if_neg c4]at he ⊢;by_cases c5:p=0
 ·rw[if_pos c5]at he;exact absurd he (by decide)
 rw[if_neg c5]at he ⊢;have hb2:=hb.2 (by omega);by_cases c6:k=21
 ·rw[if_pos c6]
  exact Qvd
 rw[if_neg c6];by_cases c7:k=23
 ·rw[if_pos c7]
  refine⟨?_,hb.1,?_,hmd⟩<;>simp<;>omega
 rw[if_neg c7];by_cases c8:md=2
 ·rw[if_pos c8]
  refine⟨ht,by dsimp only;omega,by dsimp only;omega,hmd⟩
 ·rw[if_neg c8]
  exact Qvd
theorem Tw(l:List Int)(p:Int)(h0:0<=p):0<=Jy l false p/\(0<p->Jy l false p<p):=by
 rcases(Ui l false p h0).1 with h|h<;>omega
theorem ek{K:Nat}{S:SS}{key:Int}(h:Qt K S)(he:(S.Y3 key).2.2=0):(S.Y3 key).1.length<=200/\0<=(S.Y3 key).2.1/\(S.Y3 key).2.1<=(S.Y3 key).1.length/\(S.mode=1\/S.mode=2):=
 eU h.tl h.p0 h.p1 (Tw _ _ h.p0) he
theorem Qt.typed{K:Nat}{S:SS}(h:Qt K S)(key:Int)(hn:∀c ty,S.now=some (c,ty)->ty.length+1<=K):Qt K (S.typed key):=by
 unfold SS.typed;by_cases c1:key=27
 ·rw[if_pos c1];exact h.leave
 rw[if_neg c1];by_cases c2:(S.Y3 key).2.2≠0
 ·rw[if_pos c2];exact h.Xa
 rw[if_neg c2];obtain⟨e1,e2,e3,e4⟩:=ek h (Qd c2);exact {h with
  tl:=e1
  p0:=e2
  p1:=e3
  pc:=fun hm=>by dsimp only[SS.set]at hm;omega
  n0:=fun hm=>by dsimp only[SS.set]at hm;omega
  nw:=fun c ty e=>by
   dsimp only at e;cases hn':S.now with
   | none=>rw[hn']at e;cases e
   | some q=>
    obtain⟨c0,ty0⟩:=q;rw[hn']at e;simp only[Option.map_some,Qv,YQ]at e;obtain⟨rfl,rfl⟩:=e;refine⟨(h.nw _ _ hn').1,?_⟩;have:=hn _ _ hn';simp;omega}
theorem xQ{h:Hi}(g:VE h):qK h=0:=by
 obtain⟨h1,h2,h3,h4,h5,h6,h7,h8⟩:=g;unfold qK;rw[if_neg (by omega),if_neg];simp only[Bool.not_eq_true,Bool.or_eq_false_iff,JU,Qz,List.any_eq_false,Zq];refine⟨⟨fun x hx=>?_,by omega⟩,by omega⟩;obtain⟨i,hi,e⟩:=Zi.1 hx;have:=h6 i hi;rw[jI hi,e]at this;omega
theorem iZ{h:Hi}{xs:List Int}(g:qK h=0)(hx:xs.length<=200):qK (VV h xs)=0:=by
 obtain⟨h1,h2,h3,h4,h5,h6,h7,h8⟩:=U8 g;have hlen:((Vm h xs).length:Int)<=h.most:=by
  unfold Vm;split
  ·exact h3
  ·split
   ·simp;omega
   ·simp;omega
 have hin:∀l∈Vm h xs,l.length<=200:=by
  have Np:∀l∈h.ls,l.length<=200:=fun l hl=>by
   obtain⟨i,hi,e⟩:=Zi.1 hl;have:=h6 i hi
   rwa[jI hi,e]at this
  have hin1:∀l∈h.ls++[xs],l.length<=200:=fun l hl=>by
   rcases Zz.1 hl with h|h
   ·exact Np l h
   ·rw[List.mem_singleton]at h;subst h;exact hx
  intro l hl;unfold Vm at hl;split at hl
  ·exact Np l hl
  ·split at hl
   ·exact hin1 l (List.mem_of_mem_drop hl)
   ·exact hin1 l hl
 exact xQ ⟨h1,h2,hlen,by dsimp only[VV];omega,by dsimp only[VV];omega,fun i hi=>hin _ (by rw[jI hi];exact XF hi),by dsimp only[VV];simp,h8⟩
theorem Qt.accept{K:Nat}{S:SS}(h:Qt K S):Qt K S.accept:=by
 refine Qt.YP (S:={S.tell 2 S.text with Qh:=VV S.Qh S.text,now:=none}) ?_ [] 1 (by simp) (.inr rfl) rfl;exact {h with hi:=iZ h.hi h.tl,n0:=fun _=>rfl,nw:=fun c ty e=>by cases e}
def FH(r:Hi×List Int×Int):Prop:=r.2.2=0->qK r.1=0/\r.2.1.length<=200
theorem Qt.moved{K:Nat}{S:SS}(h:Qt K S){r:Hi×List Int×Int}(hr:FH r)(hno:S.now=none):Qt K (S.moved r):=by
 unfold SS.moved;by_cases c:r.2.2≠0
 ·rw[if_pos c];exact h.Xa
 ·rw[if_neg c]
  obtain⟨e1,e2⟩:=hr (Qd c);refine Qt.YP (S:={S with Qh:=r.1}) ?_ _ 0 e2 (.inl rfl) hno;exact {h with hi:=e1}
theorem Lv{h:Hi}{xs:List Int}(g:VE h)(hx:xs.length<=200):(toS h xs).length<=200:=by
 unfold toS;split
 ·exact hx
 ·exact g.Qm
theorem Pf{h:Hi}{xs:List Int}{k:Nat}(g:VE h)(hx:xs.length<=200)(hk:k<=h.ls.length):VE (Vw h xs k)/\(Yt h xs k).length<=200:=by
 refine⟨⟨g.Ec,g.JH,g.len,by dsimp only[Vw];omega,by dsimp only[Vw];omega,g.lines,Lv g hx,g.pat⟩,?_⟩;unfold Yt;split
 ·exact Lv g hx
 ·rcases Qi k h.ls.length with h1|h1
  ·exact g.lines k h1
  ·omega
theorem SY{h:Hi}{n way:Int}{k:Nat}(g:VE h)(hn:0<=n)(e:Kc h n way=some k):k<=h.ls.length:=by
 have:=g.KR;have:=g.Ky;unfold Kc at e
 repeat' split at e
 all_goals first|(cases e;done)|(simp only[Qv]at e;omega)
theorem yE(h:Hi)(xs:List Int)(n way:Int):FH (VA h xs n way):=by
 intro hE;unfold VA at hE ⊢;by_cases c:ZC h xs.length n≠0
 ·rw[if_pos c]at hE;exact absurd hE c
 rw[if_neg c]at hE ⊢;obtain⟨g1,g2,g3,g4⟩:=XL (Qd c);cases hm:Kc h n way with
 | none=>rw[hm]at hE;exact absurd hE (by simp)
 | some k=>
  have:=Pf g1 g2 (SY g1 g3 hm);exact⟨xQ this.1,this.2⟩
theorem Nj{h:Hi}{ps:List Int}(g:VE h)(hp:ps.length<=200):(Kb h ps).length<=200:=by
 unfold Kb;split
 ·exact g.pat
 ·exact hp
theorem Xe.ok{h:Hi}{xs ps:List Int}{ol:Bool}{h':Hi}{l:List Int}{E:Int}(r:Xe h xs ps ol h' l E):FH (h',l,E):=by
 intro hE;dsimp only at hE;subst hE;rcases r with⟨a,b,c,d⟩|⟨a,b,c,d,e⟩|⟨a,b,c,d,e,f⟩|⟨a,b,c,k,hk,rfl,rfl,-⟩|⟨a,b,c,d,e,f,g⟩
 ·exact absurd d.symm a
 ·exact absurd e (by decide)
 ·exact absurd f (by decide)
 ·obtain⟨g1,g2,-⟩:=XL a
  have:=Pf (k:=k) g1 g2 (ZR hk.lt);obtain⟨⟨t1,t2,t3,t4,t5,t6,t7,t8⟩,t9⟩:=this;exact⟨xQ ⟨t1,t2,t3,t4,t5,t6,t7,Nj g1 b⟩,t9⟩
 ·exact absurd g (by decide)
theorem Xe.some(h:Hi)(xs ps:List Int)(ol:Bool):∃h' l E,Xe h xs ps ol h' l E:=by
 by_cases c1:ZC h xs.length 0≠0
 ·exact⟨_,_,_,.inl ⟨c1,rfl,rfl,rfl⟩⟩
 have c1:=Qd c1;by_cases c2:200<ps.length
 ·exact⟨_,_,_,.inr (.inl ⟨c1,c2,rfl,rfl,rfl⟩)⟩
 by_cases c3:Kb h ps=[]
 ·exact⟨_,_,_,.inr (.inr (.inl ⟨c1,by omega,c3,rfl,rfl,rfl⟩))⟩
 rcases TE (fun j=>X8 (Kb h ps) (rx h.ls j)) ol h.QM h.ls.length with⟨k,hk⟩|hk
 ·exact⟨_,_,_,.inr (.inr (.inr (.inl ⟨c1,by omega,c3,k,hk,rfl,rfl,rfl⟩)))⟩
 ·exact⟨_,_,_,.inr (.inr (.inr (.inr ⟨c1,by omega,c3,hk,rfl,rfl,rfl⟩)))⟩
theorem Cs(h:Hi)(xs ps:List Int)(ol:Bool):Xe h xs ps ol (vz h xs ps ol).1 (vz h xs ps ol).2.1 (vz h xs ps ol).2.2:=by
 obtain⟨a,b,c,d⟩:=Xe.some h xs ps ol;exact Classical.epsilon_spec (p:=fun r:Hi×List Int×Int=>Xe h xs ps ol r.1 r.2.1 r.2.2) ⟨(a,b,c),d⟩
theorem gX{h:Hi}{xs ps:List Int}{ol:Bool}{h':Hi}{l:List Int}{E:Int}(r:Xe h xs ps ol h' l E):vz h xs ps ol=(h',l,E):=by
 obtain⟨e1,e2,e3⟩:=(Cs h xs ps ol).unique r;exact Prod.ext e1 (Prod.ext e2 e3)
theorem gZ(h:Hi)(xs ps:List Int)(ol:Bool):FH (vz h xs ps ol):=(Cs h xs ps ol).ok
theorem DJ(h:Hi)(xs:List Int)(tu:Bool):Y7 h xs tu (vF h xs tu).1 (vF h xs tu).2.1 (vF h xs tu).2.2:=by
 obtain⟨a,b,c,d⟩:=Xe.some h xs [] (h.older !=tu);exact Classical.epsilon_spec (p:=fun r:Hi×List Int×Int=>Y7 h xs tu r.1 r.2.1 r.2.2) ⟨(if c=0 then⟨a.ls,a.most,a.QM,a.Qm,a.pat,h.older⟩else a,b,c),a,d,rfl⟩
theorem Mv{h:Hi}{xs:List Int}{tu:Bool}{h':Hi}{l:List Int}{E:Int}(r:Y7 h xs tu h' l E):vF h xs tu=(h',l,E):=by
 obtain⟨e1,e2,e3⟩:=(DJ h xs tu).unique r;exact Prod.ext e1 (Prod.ext e2 e3)
theorem iQ(h:Hi)(xs:List Int)(tu:Bool):FH (vF h xs tu):=by
 intro hE;obtain⟨h1,r1,r2⟩:=DJ h xs tu;have:=r1.ok hE;rw[if_pos hE]at r2;rw[r2];refine⟨?_,this.2⟩;have g:=U8 this.1;exact xQ ⟨g.Ec,g.JH,g.len,g.KR,g.Ky,g.lines,g.Qm,g.pat⟩
theorem Qt.back{K:Nat}{S:SS}(h:Qt K S)(hm:S.mode=0):Qt K S.back:=by
 unfold SS.back;by_cases c:S.past.length=0
 ·rw[if_pos c];exact h.Xa
 rw[if_neg c];have hne:S.past≠[]:=fun e=>c (by rw[e];rfl)
 have hl:=h.ps _ (List.getLast_mem hne);rw[<-Option.getD_some (a:=S.past.getLast hne) (b:=([],0)),<-List.getLast?_eq_some_getLast hne]at hl;exact {h with
  tl:=hl.1
  p0:=hl.2.1
  p1:=by dsimp only;omega
  pc:=fun _=>hl.2.2
  pl:=by have:=h.pl;dsimp only;rw[List.length_dropLast];omega
  ps:=fun e he=>h.ps e (List.dropLast_subset _ he)}
theorem Qt.Yp{K:Nat}{S:SS}(h:Qt K S)(hm:S.mode=0):Qt K S.Yp:=by
 unfold SS.Yp;by_cases c:S.text=S.first
 ·rw[if_pos c];exact h.Xa
 rw[if_neg c];have hs:=h.save (.inl hm);exact {hs with tl:=h.fl,p0:=Int.le_refl _,p1:=by dsimp only;omega,pc:=fun _=>by dsimp only;omega}
theorem eF(W:World){K:Nat}{S:SS}(h:Qt K S)(hm:S.mode=0\/S.mode=3){w:World}{a:Option Addr}{c:Nat}{vs:List Value}(hc:S.text.length<=c)(hc2:c<=9223372036854775807)(hi:Ints w a S.text)(h0:a=none->S.text.length=0)(hr:Ah w vs S.regs):
  YC ⟨w,a,S.text.length,c,S.text,S.pos.toNat,vs,S.regs⟩:=
 {len:=rfl,top:=h.tl,cap:=hc,cap2:=hc2,ints:=hi,none:=h0,O4:=hr,small:=fun i hi=>QL (h.rs i hi) (by decide),k1:=by have:=h.pc hm;have:=h.p0;dsimp only;omega}
theorem MQ(W:World){K:Nat}{S:SS}(h:Qt K S)(hm:S.mode=0\/S.mode=3):FI (SL W S):=
 {len:=rfl,top:=h.tl,lx:=h.rl,k1:=by have:=h.pc hm;have:=h.p0;dsimp only[SL];omega}
theorem Qt.Ju{W:World}{K:Nat}{S:SS}(h:Qt K S)(hm:S.mode=0)(c:C5)(hc:Uq c):Qt K (S.Ju W c).1/\((S.Ju W c).1.mode=0\/(S.Ju W c).1.mode=1\/(S.Ju W c).1.mode=2)/\((S.Ju W c).2=true->∀c' ty,(S.Ju W c).1.now=some (c',ty)->S.now=none->ty=[]):=by
 unfold SS.Ju;by_cases c1:(S.kg W c).1≠0
 ·rw[if_pos c1]
  exact⟨h.Xa,.inl hm,fun e=>by cases e⟩
 rw[if_neg c1];have hr:=TR (MQ W h (.inl hm)) h.rs (Qd c1);have hr:K4 (SL W S) (S.kg W c).2:=hr;generalize(S.kg W c).2=s at *;dsimp only;have hs:=(h.save (.inl hm)).ins;have h1:Qt K {(if DX c=true then {S.save with now:=some (c,[])}else S)with mode:=1}:=by
  by_cases hch:DX c=true
  ·rw[if_pos hch]
   exact {hs with
    n0:=fun e=>by dsimp only at e;omega
    nw:=fun c' ty e=>by
     dsimp only at e;simp only[Qv,YQ]at e;obtain⟨rfl,rfl⟩:=e;exact⟨hc,Qe _⟩}
  ·rw[if_neg hch]
   exact h.ins
 have hn:∀c' ty,(if DX c=true then {S.save with now:=some (c,[])}else S).now=some (c',ty)->S.now=none->ty=[]:=by
  intro c' ty e e2;split at e
  ·dsimp only at e
   simp only[Qv,YQ]at e;exact e.2.symm
  ·rw[e2]at e;cases e
 generalize(if DX c=true then {S.save with now:=some (c,[])}else S)=S1 at *;have h2:∀q l,((s.md=0\/s.md=3)->q=none)->(∀c' ty,q=some (c',ty)->Uq c'/\ty.length<=K)->(∀c' ty,l=some (c',ty)->Uq c'/\ty.length<=K)->Qt K {S1 with text:=s.O,pos:=s.p,regs:=s.Y,fk:=s.fk,fa:=s.fa,mode:=s.md,now:=q,last:=l}:=fun q l hq hqn hql=>
  {
   h1 with
   tl:=hr.len
   p0:=hr.p0
   p1:=hr.p1
   pc:=fun e=>hr.pc (by dsimp only at e;have:=hr.md;omega)
   n0:=hq
   md:=by have:=hr.md;dsimp only;omega
   rl:=hr.ly
   rs:=hr.ys
   la:=hql
   nw:=hqn}
 by_cases hmn:s.md=0/\S1.now.isSome=true
 ·rw[if_pos hmn]
  exact⟨h2 none S1.now (fun _=>rfl) (fun c' ty e=>by cases e) h1.nw,hr.md,fun _ c' ty e=>by cases e⟩
 ·rw[if_neg hmn]
  refine⟨h2 S1.now S1.last (fun e=>?_) h1.nw h1.la,hr.md,fun _=>hn⟩;have e0:s.md=0:=by have:=hr.md;omega
  cases hs:S1.now with
  | none=>rfl
  | some q=>exact absurd ⟨e0,by rw[hs];rfl⟩ hmn
theorem Ml{S:SS}{key:Int}{K:Nat}(h:∀c ty,S.now=some (c,ty)->ty.length<=K):∀c ty,(S.typed key).now=some (c,ty)->ty.length<=K+1:=by
 intro c ty e;unfold SS.typed at e;split at e
 ·cases e
 split at e
 ·exact Nat.le_succ_of_le (h c ty e)
 ·dsimp only at e
  cases hn:S.now with
  | none=>rw[hn]at e;cases e
  | some q=>
   obtain⟨c0,ty0⟩:=q;rw[hn]at e;simp only[Option.map_some,Qv,YQ]at e;obtain⟨rfl,rfl⟩:=e;have:=h _ _ hn;simp;omega
theorem Qt.Uj{K:Nat}:∀(l:List Int) (S:SS) (j:Nat),Qt K S->(∀c ty,S.now=some (c,ty)->ty.length<=j)->j+l.length<=K->Qt K (l.foldl SS.typed S)
 | [],S,_,h,_,_=>h
 | x::l,S,j,h,hj,hK=>by
  rw[ZK]at hK;exact Qt.Uj l (S.typed x) (j+1) (h.typed x fun c ty e=>by have:=hj c ty e;omega) (Ml hj) (by omega)
theorem Qt.again{W:World}{K:Nat}{S:SS}(h:Qt K S)(hm:S.mode=0)(hno:S.now=none)(n:Int)(hn:n<=999):Qt K (S.again W n):=by
 unfold SS.again;cases hl:S.last with
 | none=>exact h.Xa
 | some q=>
  obtain⟨c,ty⟩:=q;obtain⟨hc,hty⟩:=h.la c ty hl;dsimp only;have hc':Uq (if 0<n then {c with a:=n}else c):=by
   unfold Uq at *;split
   ·dsimp only;omega
   ·exact hc
  obtain⟨g1,g2,g3⟩:=h.Ju (W:=W) hm _ hc';generalize(S.Ju W (if 0<n then {c with a:=n}else c))=r at *;by_cases c1:r.2=false\/r.1.mode=0
  ·rw[if_pos c1];exact g1
  ·rw[if_neg c1]
   have hj:∀c ty,r.1.now=some (c,ty)->ty.length<=0:=fun c' ty' e=>by rw[g3 (by cases hh:r.2<;>simp_all) c' ty' e hno];exact QU _
   have:=Qt.Uj ty r.1 0 g1 hj (by omega);unfold SS.typed;rw[if_pos rfl];exact this.leave
theorem Qt.command{W:World}{K:Nat}{S:SS}(h:Qt K S)(hm:S.mode=0)(hno:S.now=none)(c:C5)(hc:Uq c):Qt K (S.command W c):=by
 unfold SS.command;split
 ·exact(h.Ju hm c hc).1
 split
 ·exact h.back hm
 split
 ·exact h.Yp hm
 split
 ·exact h.again hm hno c.a hc.2
 split
 ·exact h.moved (yE _ _ _ _) hno
 split
 ·exact h.moved (yE _ _ _ _) hno
 split
 ·exact h.moved (yE _ _ _ _) hno
 split
 ·exact h.moved (iQ _ _ _) hno
 split
 ·exact {h with pc:=fun _=>h.pc (.inl hm),n0:=fun _=>hno,md:=.inr (.inr (.inr rfl)),al:=by simp}
 ·exact(h.Ju hm c hc).1
theorem Qt.asked{K:Nat}{S:SS}(h:Qt K S)(hm:S.mode=3)(key:Int):Qt K (S.asked key):=by
 have h0:Qt K {S with mode:=0}:={h with pc:=fun _=>h.pc (.inr hm),n0:=fun _=>h.n0 (.inr hm),md:=.inl rfl};unfold SS.asked;split
 ·exact h0.moved (gZ _ _ _ _) (h.n0 (.inr hm))
 split
 ·exact h0
 split
 ·split
  ·exact h0
  ·exact {h with al:=by have:=h.al;dsimp only;rw[List.length_dropLast];omega}
 split
 ·exact h.Xa
 ·rename_i c4
  exact {h with al:=by have:=h.al;dsimp only;rw[QE,List.length_singleton];omega}
theorem KL{f r o s wt:Int}:YV f r o s wt=0↔(0<=f/\f<=999/\0<=s/\s<=999/\(o≠0\/s=0))/\(r=0\/CY r=true)/\(o=0\/R5 o=true)/\(wt=0\/WL wt=true\/(wt=114/\o=0)\/(wt=34/\o=0/\r=0)\/(vY wt=true/\o≠0)):=by
 unfold YV;constructor
 ·intro h
  split at h
  ·rename_i h1
   simp only[OB,NH,PI,Bool.and_eq_true,Bool.or_eq_true,Zq]at h1;obtain⟨⟨h2,h3,h4⟩,h5⟩:=h1;refine⟨h2,h3,h4,?_⟩;rcases h5 with(((h5|h5)|h5)|h5)|h5
   ·exact .inl h5
   ·exact .inr (.inl h5)
   ·exact .inr (.inr (.inl h5))
   ·exact .inr (.inr (.inr (.inl h5)))
   ·exact .inr (.inr (.inr (.inr h5)))
  ·exact absurd h (by decide)
 ·rintro⟨h2,h3,h4,h5⟩
  rw[if_pos];simp only[OB,NH,PI,Bool.and_eq_true,Bool.or_eq_true,Zq];refine⟨⟨h2,h3,h4⟩,?_⟩;rcases h5 with h5|h5|h5|h5|h5
  ·exact .inl (.inl (.inl (.inl h5)))
  ·exact .inl (.inl (.inl (.inr h5)))
  ·exact .inl (.inl (.inr h5))
  ·exact .inl (.inr h5)
  ·exact .inr h5
theorem Tc{f k:Int}(h:0<=f/\f<=999)(hk:48<=k/\k<=57):0<=VJ f k/\VJ f k<=999:=by unfold VJ;omega
theorem nR{f s:Int}(h:0<=f/\f<=999)(g:0<=s/\s<=999):0<=Ut f s/\Ut f s<=999:=by
 have:=SX h.1 h.2 g.1 g.2;unfold Ut;split
 ·exact g
 split
 ·exact h
 ·omega
theorem eu(f r o s key:Int):(Jr f r o s key=1->48<=key/\key<=57)/\(Jr f r o s key=2->key=34/\o=0/\r=0)/\(Jr f r o s key=3->R5 key=true)/\(Jr f r o s key=4->WL key=true)/\(Jr f r o s key=7->key=114/\o=0)/\(Jr f r o s key=8->vY key=true/\o≠0):=by
 unfold Jr;by_cases c1:bU (if o≠0 then s else f) key=true
 ·rw[if_pos c1]
  unfold bU at c1;rw[Zq]at c1;exact⟨fun _=>by omega,fun h=>by omega,fun h=>by omega,fun h=>by omega,fun h=>by omega,fun h=>by omega⟩
 rw[if_neg c1];by_cases c2:R5 key=true
 ·rw[if_pos c2];exact⟨fun h=>by omega,fun h=>by omega,fun h=>c2,fun h=>by omega,fun h=>by omega,fun h=>by omega⟩
 rw[if_neg c2];by_cases c3:moB key=true
 ·rw[if_pos c3];exact⟨fun h=>by omega,fun h=>by omega,fun h=>by omega,fun h=>by omega,fun h=>by omega,fun h=>by omega⟩
 rw[if_neg c3];by_cases c4:WL key=true
 ·rw[if_pos c4];exact⟨fun h=>by omega,fun h=>by omega,fun h=>by omega,fun h=>c4,fun h=>by omega,fun h=>by omega⟩
 rw[if_neg c4];by_cases c5:vY key=true
 ·rw[if_pos c5]
  by_cases c6:o≠0
  ·rw[if_pos c6];exact⟨fun h=>by omega,fun h=>by omega,fun h=>by omega,fun h=>by omega,fun h=>by omega,fun h=>⟨c5,c6⟩⟩
  ·rw[if_neg c6];exact⟨fun h=>by omega,fun h=>by omega,fun h=>by omega,fun h=>by omega,fun h=>by omega,fun h=>by omega⟩
 rw[if_neg c5];by_cases c6:o≠0
 ·rw[if_pos c6];exact⟨fun h=>by omega,fun h=>by omega,fun h=>by omega,fun h=>by omega,fun h=>by omega,fun h=>by omega⟩
 rw[if_neg c6];have c6:o=0:=Qd c6;by_cases c7:key=34
 ·rw[if_pos c7]
  by_cases c8:r≠0
  ·rw[if_pos c8];exact⟨fun h=>by omega,fun h=>by omega,fun h=>by omega,fun h=>by omega,fun h=>by omega,fun h=>by omega⟩
  ·rw[if_neg c8];exact⟨fun h=>by omega,fun h=>⟨c7,c6,Qd c8⟩,fun h=>by omega,fun h=>by omega,fun h=>by omega,fun h=>by omega⟩
 rw[if_neg c7];by_cases c8:key=114
 ·rw[if_pos c8];exact⟨fun h=>by omega,fun h=>by omega,fun h=>by omega,fun h=>by omega,fun h=>⟨c8,c6⟩,fun h=>by omega⟩
 rw[if_neg c8];split<;>exact⟨fun h=>by omega,fun h=>by omega,fun h=>by omega,fun h=>by omega,fun h=>by omega,fun h=>by omega⟩
def MC(t:TK):Prop:=YV t.q0 t.q1 t.q2 t.q3 t.q4=0/\Uq t.cmd
theorem VH:MC TK.wrong:=⟨Bh,by unfold Uq TK.cmd TK.wrong;dsimp only;omega⟩
theorem yP{f r o s v a:Int}(h:0<=f/\f<=999)(g:0<=s/\s<=999):MC (TK.done f r o s v a):=⟨Bh,nR h g⟩
theorem qO{f r o s wt:Int}(h:YV f r o s wt=0):MC (TK.more f r o s wt):=⟨h,by unfold Uq TK.cmd TK.more;dsimp only;omega⟩
theorem BA{f r o s wt key:Int}(h:YV f r o s wt=0):MC (KV f r o s wt key):=by
 obtain⟨⟨h1,h2,h3,h4,h5⟩,h6,h7,h8⟩:=KL.1 h;obtain⟨k1,k2,k3,k4,k7,k8⟩:=eu f r o s key;unfold KV;split
 ·exact VH
 split
 ·rename_i hw
  unfold VU;by_cases bK:wt=34
  ·rw[if_pos bK]
   by_cases hl:CY key=true
   ·rw[if_pos hl]
    have ho:o=0:=by
     subst bK;rcases h8 with h8|h8|h8|h8|h8
     ·omega
     ·exact absurd h8 (by decide)
     ·omega
     ·exact h8.2.1
     ·exact absurd h8.1 (by decide)
    exact qO (KL.2 ⟨⟨h1,h2,h3,h4,h5⟩,.inr hl,h7,.inl rfl⟩)
   ·rw[if_neg hl];exact VH
  rw[if_neg bK];split
  ·split
   ·exact yP ⟨h1,h2⟩ ⟨h3,h4⟩
   ·exact VH
  ·exact yP ⟨h1,h2⟩ ⟨h3,h4⟩
 split
 ·rename_i hk
  have:=k1 hk;split
  ·rename_i ho
   have:=Tc (f:=s) ⟨h3,h4⟩ this;exact qO (KL.2 ⟨⟨h1,h2,this.1,this.2,.inl ho⟩,h6,h7,.inl rfl⟩)
  ·have:=Tc (f:=f) ⟨h1,h2⟩ this
   exact qO (KL.2 ⟨⟨this.1,this.2,h3,h4,h5⟩,h6,h7,.inl rfl⟩)
 split
 ·rename_i hk
  refine qO (KL.2 ⟨⟨h1,h2,h3,h4,h5⟩,h6,h7,?_⟩);rcases hk with hk|hk|hk|hk
  ·exact .inr (.inr (.inr (.inl (k2 hk))))
  ·exact .inr (.inl (k4 hk))
  ·exact .inr (.inr (.inl (k7 hk)))
  ·exact .inr (.inr (.inr (.inr (k8 hk))))
 split
 ·rename_i hk
  split
  ·rename_i ho
   exact qO (KL.2 ⟨⟨h1,h2,h3,h4,by omega⟩,h6,.inr (k3 hk),.inl rfl⟩)
  split
  ·exact VH
  ·exact yP ⟨h1,h2⟩ ⟨h3,h4⟩
 split
 ·exact yP ⟨h1,h2⟩ ⟨h3,h4⟩
 ·exact VH
theorem Qt.key{W:World}{K:Nat}{S:SS}(h:Qt K S)(key:Int):Qt (K+1) (S.key W key):=by
 have hK:=h.mono (QK K);unfold SS.key;split
 ·refine Qt.YP (S:={S.tell 3 []with now:=none,Qh:=⟨S.Qh.ls,S.Qh.most,S.Qh.ls.length,[],S.Qh.pat,S.Qh.older⟩}) ?_ [] 1 (by simp) (.inr rfl) rfl
  have g:=U8 h.hi;exact {hK with hi:=xQ ⟨g.Ec,g.JH,g.len,by dsimp only;omega,by dsimp only;omega,g.lines,by simp,g.pat⟩,n0:=fun _=>rfl,nw:=fun c ty e=>by cases e}
 split
 ·rename_i hm;exact hK.asked hm key
 split
 ·exact hK.accept
 split
 ·split
  ·exact hK.Xa
  ·exact {hK with}
 split
 ·exact hK.typed key fun c ty e=>by have:=(h.nw c ty e).2;omega
 ·rename_i hm
  have hm:S.mode=0:=Qd hm;have ht:=BA (key:=key) h.pt;have h1:Qt (K+1) {S with part:=(S.Ua key).part}:={hK with pt:=ht.1};dsimp only;split
  ·exact Qt.command (S:={S with part:=(S.Ua key).part}) h1 hm (h.n0 (.inl hm)) _ ht.2
  split
  ·exact Qt.Xa (S:={S with part:=(S.Ua key).part}) h1
  ·exact h1
theorem Tf(c:Int):KZ (cellS c)=false:=by
 unfold KZ cellS;split<;>simp<;>omega
theorem bE(t:List Int)(off width:Int)(p:Int)(h1:2<=width)(h2:width<=120)(h3:0<=p)(h4:p<=width):JZ (Je t off width) p=0:=by
 unfold JZ;rw[Yy,if_neg (by omega),if_neg];rw[Bool.not_eq_true,List.any_eq_false];intro x hx;unfold Je at hx;obtain⟨i,-,rfl⟩:=List.mem_map.1 hx;split
 ·rw[Tf];decide
 ·decide
theorem vw{p off width:Int}(h0:0<=p/\p<=200)(h1:0<=off/\off<=200)(h2:2<=width):0<=Zj p off width/\Zj p off width<=200/\0<=p-Zj p off width/\p-Zj p off width<width:=by
 unfold Zj;split
 ·omega
 split<;>omega
theorem Qt.show{K:Nat}{S:SS}(h:Qt K S):Qt K S.show:=by
 have h1:=h.p0;have h2:=h.p1;have h3:=h.tl;have h4:=h.wd;have hs:=vw (p:=S.pos) (off:=S.off) (width:=S.width) ⟨h1,by omega⟩ h.o0 h4.1;exact {h with
  o0:=⟨hs.1,hs.2.1⟩
  rw_:=by dsimp only[SS.show];rw[Yy];omega
  re:=by dsimp only[SS.show];exact bE _ _ _ _ h4.1 h4.2 hs.2.2.1 (by omega)}
theorem Qt.step{W:World}{K:Nat}{S:SS}(h:Qt K S)(key:Int):Qt (K+1) (S.step W key):=by
 unfold SS.step;split
 ·exact h.mono (QK K)
 ·exact(h.key key).show
theorem Qt.keys{W:World}:∀(l:List Int) {K:Nat} {S:SS},Qt K S->Qt (K+l.length) (S.keys W l)
 | [],K,S,h=>h
 | x::l,K,S,h=>by
  have:=Qt.keys (W:=W) l (h.step (W:=W) x);rw[ZK,show K+(l.length+1)=K+1+l.length from by omega];exact this
theorem Qt.new{most width:Int}(h1:1<=most)(h2:most<=50)(h3:2<=width)(h4:width<=120):Qt 0 (SS.new most width):=
 {tl:=Qe _,p0:=Int.le_refl _,p1:=Int.le_refl _,pc:=fun _=>by dsimp only[SS.new];omega,n0:=fun _=>rfl,md:=.inr (.inl rfl),rl:=by simp[SS.new],rs:=fun i hi=>by
   unfold SS.new rx;rw[QN];dsimp only;rw[List.getElem?_replicate,if_pos hi];exact Qe _
  pt:=Bh,hi:=xQ ⟨h1,h2,by simp[SS.new];omega,by simp[SS.new],by simp[SS.new],fun i hi=>by simp[SS.new]at hi,by simp[SS.new],by simp[SS.new]⟩
  pl:=Qe _,ps:=fun e he=>by cases he
  fl:=Qe _,la:=fun c ty e=>by cases e
  nw:=fun c ty e=>by cases e
  al:=Qe _,o0:=by dsimp only[SS.new];omega,wd:=⟨h3,h4⟩,rw_:=by simp[SS.new];omega
  re:=by
   unfold SS.new JZ;simp only[Xr];rw[if_neg (by omega),if_neg];rw[Bool.not_eq_true,List.any_eq_false];intro x hx;rw[List.mem_replicate]at hx;rw[hx.2];decide}
structure Tl (n:Nat) (S S':SS):Prop where
 told:∃m:List (Int×List Int),S'.told=S.told++m/\m.length<=n/\∀e∈m,e.1≠4/\e.2.length<=200
 over:S'.over=S.over
 most:S'.Qh.most=S.Qh.most
 XK:S'.XK=S.XK
 width:S'.width=S.width
theorem Tl.of{S S':SS}(h1:S'.told=S.told)(h2:S'.over=S.over)(h3:S'.Qh.most=S.Qh.most)(h4:S'.XK=S.XK)(h5:S'.width=S.width):Tl 0 S S':=
 ⟨⟨[],by rw[h1,List.append_nil],QU _,fun e he=>by cases he⟩,h2,h3,h4,h5⟩
theorem Tl.trans{a b:Nat}{S T U:SS}(h:Tl a S T)(g:Tl b T U):Tl (a+b) S U:=by
 obtain⟨m,h1,h2,h3⟩:=h.told;obtain⟨k,g1,g2,g3⟩:=g.told;refine⟨⟨m++k,by rw[g1,h1,List.append_assoc],by rw[QE];omega,fun e he=>?_⟩,g.over.trans h.over,g.most.trans h.most,g.XK.trans h.XK,g.width.trans h.width⟩;rcases Zz.1 he with he|he
 ·exact h3 e he
 ·exact g3 e he
theorem Tl.mono{a b:Nat}{S T:SS}(h:Tl a S T)(hab:a<=b):Tl b S T:=by
 obtain⟨m,h1,h2,h3⟩:=h.told;exact⟨⟨m,h1,by omega,h3⟩,h.over,h.most,h.XK,h.width⟩
theorem Tl.any{n:Nat}{S S':SS}(h1:S'.told=S.told)(h2:S'.over=S.over)(h3:S'.Qh.most=S.Qh.most)(h4:S'.XK=S.XK)(h5:S'.width=S.width):Tl n S S':=(Tl.of h1 h2 h3 h4 h5).mono (Qe _)
theorem Tl.refl(S:SS):Tl 0 S S:=Tl.of rfl rfl rfl rfl rfl
theorem Tl.tell(S:SS)(k:Int)(l:List Int)(hk:k≠4)(hl:l.length<=200):Tl 1 S (S.tell k l):=
 ⟨⟨[(k,l)],rfl,QU _,fun e he=>by obtain rfl:=List.mem_singleton.1 he;exact⟨hk,hl⟩⟩,rfl,rfl,rfl,rfl⟩
theorem Tl.Xa(S:SS):Tl 1 S S.Xa:=Tl.tell S 1 [] (by decide) (by simp)
theorem Tl.leave(S:SS):Tl 0 S S.leave:=Tl.of rfl rfl rfl rfl rfl
theorem Tl.typed(S:SS)(key:Int):Tl 1 S (S.typed key):=by
 unfold SS.typed;split
 ·exact(Tl.leave S).mono (by omega)
 ·split
  ·exact Tl.Xa S
  ·exact Tl.any rfl rfl rfl rfl rfl
theorem Tl.Uj:∀(l:List Int) (S:SS),Tl l.length S (l.foldl SS.typed S)
 | [],S=>Tl.refl S
 | k::l,S=>by
  have:=(Tl.typed S k).trans (Tl.Uj l (S.typed k));exact this.mono (by simp;omega)
theorem Tl.accept{K:Nat}{S:SS}(h:Qt K S):Tl 1 S S.accept:=
 ((Tl.tell S 2 S.text (by decide) h.tl).trans (Tl.of (S':=S.accept) rfl rfl rfl rfl rfl)).mono (by omega)
theorem Tl.moved(S:SS)(r:Hi×List Int×Int)(hr:r.2.2=0->r.1.most=S.Qh.most):Tl 1 S (S.moved r):=by
 unfold SS.moved;split
 ·exact Tl.Xa S
 ·rename_i h
  exact Tl.any rfl rfl (hr (Qd h)) rfl rfl
theorem Tl.back(S:SS):Tl 1 S S.back:=by
 unfold SS.back;exact QAK
theorem Tl.Yp(S:SS):Tl 1 S S.Yp:=by
 unfold SS.Yp;exact QAK
theorem Tl.Ju(W:World)(S:SS)(c:C5):Tl 1 S (S.Ju W c).1:=by
 unfold SS.Ju;split
 ·exact Tl.Xa S
 ·dsimp only
  split<;>split<;>exact Tl.any rfl rfl rfl rfl rfl
theorem Tl.again{W:World}{K:Nat}{S:SS}(h:Qt K S)(n:Int):Tl (K+2) S (S.again W n):=by
 unfold SS.again;split
 ·exact(Tl.Xa S).mono (by omega)
 ·rename_i c ty he
  have h1:=(h.la c ty he).2;dsimp only;generalize(if 0<n then({c with a:=n}:C5)else c)=c';split
  ·exact Tl.mono (a:=1) (Tl.Ju W S _) (by omega)
  ·exact Tl.mono (a:=1+ty.length+1) (((Tl.Ju W S _).trans (Tl.Uj ty _)).trans (Tl.typed _ 27)) (by omega)
theorem zM(h:Hi)(xs:List Int)(n way:Int)(e:(VA h xs n way).2.2=0):(VA h xs n way).1.most=h.most:=by
 unfold VA at e ⊢;split
 ·rename_i h1
  rw[if_pos h1]at e;exact absurd e h1
 ·rename_i h1
  rw[if_neg h1]at e;split
  ·rename_i h2
   rw[h2]at e;exact absurd (show(5:Int)=0 from e) (by decide)
  ·rfl
theorem Xe.most{h:Hi}{xs ps:List Int}{ol:Bool}{h':Hi}{l:List Int}{E:Int}(r:Xe h xs ps ol h' l E)(e:E=0):h'.most=h.most:=by
 subst e;rcases r with⟨h1,_,_,h2⟩|⟨_,_,_,_,h2⟩|⟨_,_,_,_,_,h2⟩|⟨_,_,_,k,_,rfl,_,_⟩|⟨_,_,_,_,_,_,h2⟩
 ·exact absurd h2.symm h1
 ·exact absurd h2 (by decide)
 ·exact absurd h2 (by decide)
 ·rfl
 ·exact absurd h2 (by decide)
theorem Oq(h:Hi)(xs ps:List Int)(ol:Bool)(e:(vz h xs ps ol).2.2=0):(vz h xs ps ol).1.most=h.most:=(Cs h xs ps ol).most e
theorem OL(h:Hi)(xs:List Int)(tu:Bool)(e:(vF h xs tu).2.2=0):(vF h xs tu).1.most=h.most:=by
 obtain⟨h1,hf,he⟩:=DJ h xs tu;have hm:=hf.most e;rw[he,if_pos e];exact hm
theorem Tl.command{W:World}{K:Nat}{S:SS}(h:Qt K S)(c:C5):Tl (K+2) S (S.command W c):=by
 unfold SS.command;split
 ·exact(Tl.Ju W S c).mono (by omega)
 split
 ·exact(Tl.back S).mono (by omega)
 split
 ·exact(Tl.Yp S).mono (by omega)
 split
 ·exact Tl.again h c.a
 split
 ·exact(Tl.moved S _ (zM _ _ _ _)).mono (by omega)
 split
 ·exact(Tl.moved S _ (zM _ _ _ _)).mono (by omega)
 split
 ·exact(Tl.moved S _ (zM _ _ _ _)).mono (by omega)
 split
 ·exact(Tl.moved S _ (OL _ _ _)).mono (by omega)
 split
 ·exact Tl.any rfl rfl rfl rfl rfl
 ·exact(Tl.Ju W S c).mono (by omega)
theorem Tl.asked(S:SS)(key:Int):Tl 1 S (S.asked key):=by
 unfold SS.asked;split
 ·have:=Tl.moved {S with mode:=0} _ (Oq S.Qh S.text S.ask S.older)
  exact⟨this.told,this.over,this.most,this.XK,this.width⟩
 split
 ·exact Tl.any rfl rfl rfl rfl rfl
 split
 ·split<;>exact Tl.any rfl rfl rfl rfl rfl
 exact QAK
theorem Hy{W:World}{K:Nat}{S:SS}(h:Qt K S)(key:Int):Tl (K+2) S (S.key W key)\/(S.key W key={S.tell 4 []with over:=true}):=by
 unfold SS.key;split
 ·exact .inl (Tl.mono (a:=1+0) ((Tl.tell S 3 [] (by decide) (by simp)).trans (Tl.of rfl rfl rfl rfl rfl)) (by omega))
 split
 ·exact .inl ((Tl.asked S key).mono (by omega))
 split
 ·exact .inl ((Tl.accept h).mono (by omega))
 split
 ·split
  ·exact .inl ((Tl.Xa S).mono (by omega))
  ·exact .inr rfl
 split
 ·exact .inl ((Tl.typed S key).mono (by omega))
 dsimp only;have hk:Qt K {S with part:=(S.Ua key).part}:={h with pt:=(BA h.pt).1};split
 ·exact .inl (Tl.mono (a:=0+(K+2)) ((Tl.of (S:=S) (S':={S with part:=(S.Ua key).part}) rfl rfl rfl rfl rfl).trans (Tl.command hk _)) (by omega))
 split
 ·exact .inl (Tl.mono (a:=0+1) ((Tl.of (S:=S) (S':={S with part:=(S.Ua key).part}) rfl rfl rfl rfl rfl).trans (Tl.Xa _)) (by omega))
 ·exact .inl (Tl.any rfl rfl rfl rfl rfl)
structure Tk (n:Nat) (S S':SS):Prop where
 told:∃m:List (Int×List Int),S'.told=S.told++m/\m.length<=n/\(∀e∈m,e.2.length<=200)/\((S'.over=false/\∀e∈m,e.1≠4)\/(S'.over=true/\∃k,m=k++[(4,[])]/\∀e∈k,e.1≠4))
 most:S'.Qh.most=S.Qh.most
 width:S'.width=S.width
theorem M0{W:World}{S:SS}(h:S.over=true)(key:Int):S.step W key=S:=by unfold SS.step;rw[if_pos h]
theorem ze{W:World}:∀(l:List Int) {S:SS},S.over=true->S.keys W l=S
 | [],S,h=>rfl
 | k::l,S,h=>by
  show(S.step W k).keys W l=S
  rw[M0 h];exact ze l h
theorem yL{W:World}:∀(l:List Int) {K:Nat} {S:SS},Qt K S->S.over=false->∀M,K+l.length<=M->Tk (l.length*(M+2)) S (S.keys W l)
 | [],K,S,h,ho,M,hM=>⟨⟨[],(by rw[List.append_nil];rfl),Qe _,fun e he=>(by cases he),.inl ⟨ho,fun e he=>(by cases he)⟩⟩,rfl,rfl⟩
 | k::l,K,S,h,ho,M,hM=>by
  have hs:S.keys W (k::l)=(S.step W k).keys W l:=rfl;have hst:S.step W k=(S.key W k).show:=by unfold SS.step;rw[ho];rfl
  have hi:=h.step (W:=W) k;rw[hs];rw[ZK]at hM;have hmul:(l.length+1)*(M+2)=l.length*(M+2)+(M+2):=by rw[Nat.add_mul,Nat.one_mul]
  rcases Hy (W:=W) h k with ht|ht
  ·have ho2:(S.step W k).over=false:=by rw[hst];exact ht.over.trans ho
   have ih:=yL (W:=W) l hi ho2 M (by omega);obtain⟨m,h1,h2,h3⟩:=ht.told;obtain⟨m2,g1,g2,g3,g4⟩:=ih.told;have e1:(S.step W k).told=S.told++m:=by rw[hst];exact h1
   refine⟨⟨m++m2,by rw[g1,e1,List.append_assoc],by rw[QE,ZK,hmul];omega,fun e he=>?_,?_⟩,ih.most.trans ?_,ih.width.trans ?_⟩
   ·rcases Zz.1 he with he|he
    ·exact(h3 e he).2
    ·exact g3 e he
   ·rcases g4 with⟨o,q⟩|⟨o,j,rfl,q⟩
    ·refine .inl ⟨o,fun e he=>?_⟩
     rcases Zz.1 he with he|he
     ·exact(h3 e he).1
     ·exact q e he
    ·refine .inr ⟨o,m++j,by rw[List.append_assoc],fun e he=>?_⟩
     rcases Zz.1 he with he|he
     ·exact(h3 e he).1
     ·exact q e he
   ·rw[hst];exact ht.most
   ·rw[hst];exact ht.width
  ·have ho2:(S.step W k).over=true:=by rw[hst,ht];rfl
   rw[ze l ho2,hst,ht];refine⟨⟨[(4,[])],rfl,(by show 0+1<=(l.length+1)*(M+2);rw[hmul];omega),fun e he=>(by obtain rfl:=List.mem_singleton.1 he;simp),.inr ⟨rfl,[],rfl,fun e he=>(by cases he)⟩⟩,rfl,rfl⟩
def bD:ByteArray:=⟨#[97,98,32,99,100,27,48,100,119]⟩
def iO:ByteArray:=⟨#[117]⟩
def iN:ByteArray:=⟨#[46,13]⟩
noncomputable def iT(W:World):SS:=((SS.new 5 10).feed W bD).1
noncomputable def iR(W:World):SS:=((iT W).feed W iO).1
noncomputable def wS3(W:World):SS:=((iR W).feed W iN).1
theorem nG(W:World):((SS.new 5 10).feed W bD).2=0/\(iT W).told=[]/\(iT W).text=[99,100]:=⟨by kernel_rfl,by kernel_rfl,by kernel_rfl⟩
theorem nE(W:World):((iT W).feed W iO).2=0/\(iR W).told=[]/\(iR W).text=[97,98,32,99,100]:=⟨by kernel_rfl,by kernel_rfl,by kernel_rfl⟩
theorem nD(W:World):((iR W).feed W iN).2=0/\(wS3 W).told=[(2,[99,100])]/\(wS3 W).Qh.ls.length=1:=⟨by kernel_rfl,by kernel_rfl,by kernel_rfl⟩
end Go.Proofs.YtmdcencmiopmmaaGreat
