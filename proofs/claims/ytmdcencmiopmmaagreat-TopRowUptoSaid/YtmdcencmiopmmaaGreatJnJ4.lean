/- joined, no condition of its own. -/
import Derived.Test.YtmdcencmiopmmaaGreatJnT
import Derived.Test.YtmdcencmiopmmaaGreatJnJ1
import Derived.Test.YtmdcencmiopmmaaGreatJnJ3
set_option linter.unusedVariables false
set_option linter.unusedSimpArgs false
set_option maxRecDepth 100000
set_option maxHeartbeats 12000000
namespace Go.Proofs.YtmdcencmiopmmaaGreat
open Go.RowKit
def Xz(c:Int):Int:=if c=40 then 41 else if c=91 then 93 else if c=123 then 125 else if c=41 then 40 else if c=93 then 91 else if c=125 then 123 else 0
def qQ(c:Int):Bool:=if c=41 then true else if c=93 then true else if c=125 then true else false
def Y9(c:Int):Int:=if c=40\/c=41 then 40 else if c=91\/c=93 then 91 else if c=123\/c=125 then 123 else 0
def Wn(c:Int):Int:=if c=40\/c=41 then 41 else if c=91\/c=93 then 93 else if c=123\/c=125 then 125 else 0
theorem zU(c:Int):c=40\/c=91\/c=123\/c=41\/c=93\/c=125\/(c≠40/\c≠91/\c≠123/\c≠41/\c≠93/\c≠125):=QQ
theorem ED(c:Int):0<=Xz c/\Xz c<=125:=by
 unfold Xz;repeat' split
 all_goals omega
theorem Vk(c:Int)(w:World):
  Calls Tryz.prog 306 #[.int .i64 c] w fun e w'=>e=.returned (.tuple #[.int .i64 (Xz c),.bool (qQ c)])/\w=w':=by
 go_enter Tryz.func306,Tryz.ntmps306
 rcases zU c with rfl|rfl|rfl|rfl|rfl|rfl|⟨h1,h2,h3,h4,h5,h6⟩
 all_goals
  go_wp2;go_ret2
  refine⟨?_,rfl⟩
  first
  | rfl
  | simp[Xz,qQ,h1,h2,h3,h4,h5,h6]
theorem ja(c:Int)(w:World):
  Calls Tryz.prog 309 #[.int .i64 c] w fun e w'=>e=.returned (.tuple #[.int .i64 (Xz c),.bool (qQ c)])/\w=w':=by
 go_enter Tryz.func309,Tryz.ntmps309
 go_wp2_with fail
 refine(Vk c w).mono ?_;rintro e w' ⟨rfl,rfl⟩;go_wp2;go_ret2
 exact⟨rfl,rfl⟩
def oC(l:List Int)(o s:Int)(i:Nat):Int:=(if ix l i=o then 1 else 0)-(if ix l i=s then 1 else 0)
def cnt(l:List Int)(o s:Int)(at':Nat->Nat):Nat->Int
 | 0=>0
 | t+1=>cnt l o s at' t+oC l o s (at' t)
def gU(l:List Int)(o s:Int)(at':Nat->Nat)(t:Nat):Prop:=ix l (at' t)=s/\cnt l o s at' (t+1)=0
def Dy(l:List Int)(o s:Int)(at':Nat->Nat)(m:Nat)(r:Int):Prop:=
 (∃t,t<m/\gU l o s at' t/\(∀t',t'<t->¬gU l o s at' t')/\r=(at' t:Int))\/((∀t,t<m->¬gU l o s at' t)/\r= -1)
end Go.Proofs.YtmdcencmiopmmaaGreat
namespace Go.Proofs.YtmdcencmiopmmaaGreat
open Go.RowKit Go.Maps
def dU(v:Value):Option (DataW Value×List MemPlace):=some (.held v,[])
def bz:Value:=.slice none 0 0
def VA(w:World)(b n:Nat)(f:Int->Value):Prop:=
 ∃D:DataW Value,w.ownsMap Tryz.prog 3 dU b n D/\∀x,yM x->D.atKey (.int .i64 x) (.held bz)=.held (f x)
theorem vw:Maps.Keyed Tryz.prog 3:=Maps.int_keyed Tryz.underlying3
theorem VA.kept{w w':World}{b n:Nat}{f:Int->Value}{row:Option Nat}(h:VA w b n f)(hg:w.grownBy w' row)(hne:some b≠row):VA w' b n f:=by
 obtain⟨D,h1,h2⟩:=h;exact⟨D,h1.kept hg hne,h2⟩
theorem VA.alloc{w:World}{b n:Nat}{f:Int->Value}(h:VA w b n f)(o:Obj):VA (w.alloc o) b n f:=by
 obtain⟨D,h1,h2⟩:=h;exact⟨D,h1.alloc o,h2⟩
theorem VA.lt{w:World}{b n:Nat}{f:Int->Value}(h:VA w b n f):b<w.heap.size:=by
 obtain⟨D,h1,h2⟩:=h;exact h1.lt
theorem VA.made(w:World):VA (w.alloc (.map #[] 0)) w.heap.size 0 (fun _=>bz):=by
 refine⟨_,World.ownsMap_made w _ _ _,fun x _=>?_⟩;rfl
theorem Ma{x:Int}(h:yM x):keyOf Tryz.prog 3 (.int .i64 x)=some (.int .i64 x):=Maps.keyOf_int_mk Tryz.underlying3 (by simpa[Lit.wf,IntKind.min,IntKind.max,IntKind.signed,IntKind.bits,yM]using h)
theorem VA.lookup{w:World}{b n:Nat}{f:Int->Value}(h:VA w b n f)(hz:(zeroValue 26).run Tryz.prog w=.ok bz w){x:Int}(hx:yM x):
  (Instr.lookup 377 (.map (some b)) (.int .i64 x) false).run Tryz.prog w=.ok (f x) w:=by
 obtain⟨D,h1,h2⟩:=h;obtain⟨v,ps,hrun,hv⟩:=h1.lookup vw Tryz.underlying377 hz rfl (Ma hx);rw[h2 x hx]at hv;simp only[dU,ZM,Yg,DataW.held.injEq]at hv;rw[hrun,hv.1]
theorem VA.update{w:World}{b n:Nat}{f:Int->Value}(h:VA w b n f)(hn:n<=1000000000){x:Int}(hx:yM x)(val:Value):
  ∃w',(Instr.mapUpdate 377 (.map (some b)) (.int .i64 x) val).run Tryz.prog w=.ok () w'/\VA w' b (n+1) (fun y=>if y=x then val else f y)/\w.grownBy w' (some b):=by
 obtain⟨D,h1,h2⟩:=h;obtain⟨w',hrun,h3,h4⟩:=h1.update vw Tryz.underlying377 Qo (Ma hx) (show dU val=some (.held val,[])from rfl);refine⟨w',hrun,⟨_,h3,fun y hy=>?_⟩,h4⟩;show _=DataW.held (if y=x then val else f y);by_cases e:y=x
 ·subst e
  rw[if_pos rfl];obtain⟨es,clock,_,_,_,hD⟩:=h1;exact atKey_put_same ⟨_,hD⟩ (vw.key (Ma hx)) _ _
 ·rw[if_neg e,<-h2 y hy]
  exact atKey_put_other (fun hh=>e QBj) _ _
end Go.Proofs.YtmdcencmiopmmaaGreat
namespace Go.Proofs.YtmdcencmiopmmaaGreat
open Go.RowKit
structure PSt where
 out:List Int
 Jo:Int->List Int
def UT(c:Int)(i:Nat)(s:PSt):PSt:=
 let out:=s.out.set i (-1)
 if Xz c=0 then⟨out,s.Jo⟩
 else if qQ c=false then⟨out,fun y=>if y=c then s.Jo c++[(i:Int)]else s.Jo y⟩
 else if s.Jo (Xz c)=[]then⟨out,s.Jo⟩
 else⟨(out.set i (ix (s.Jo (Xz c)) ((s.Jo (Xz c)).length-1))).set (ix (s.Jo (Xz c)) ((s.Jo (Xz c)).length-1)).toNat (i:Int),
    fun y=>if y=Xz c then(s.Jo (Xz c)).dropLast else s.Jo y⟩
def Jr(l:List Int)(n:Nat):Nat->PSt
 | 0=>⟨List.replicate n 0,fun _=>[]⟩
 | i+1=>UT (ix l i) i (Jr l n i)
theorem Pp(c:Int)(i:Nat)(s:PSt):(UT c i s).out.length=s.out.length:=by
 unfold UT;dsimp only;repeat' split
 all_goals simp
theorem qI(l:List Int)(n i:Nat):(Jr l n i).out.length=n:=by
 induction i with
 | zero=>simp[Jr]
 | succ i ih=>simp only[Jr];rw[Pp,ih]
theorem iJ(w:World):(zeroValue 26).run Tryz.prog w=.ok bz w:=QX
end Go.Proofs.YtmdcencmiopmmaaGreat
namespace Go.Proofs.YtmdcencmiopmmaaGreat
def YM(l:List Int)(o s:Int):Nat->Int
 | 0=>0
 | i+1=>YM l o s i+oC l o s i
theorem Nk(l:List Int)(o s:Int)(k t:Nat):cnt l o s (fun t=>k+t) t=YM l o s (k+t)-YM l o s k:=by
 induction t with
 | zero=>simp[cnt]
 | succ t ih=>simp only[cnt];rw[ih,show k+(t+1)=(k+t)+1 from rfl];simp only[YM];omega
theorem ek(l:List Int)(o s:Int)(i:Nat):oC l s o i= -oC l o s i:=by unfold oC;omega
theorem Am(l:List Int)(o s:Int)(k t:Nat)(h:t<=k+1):cnt l s o (fun t=>k-t) t=YM l o s (k+1-t)-YM l o s (k+1):=by
 induction t with
 | zero=>simp[cnt]
 | succ t ih=>
  have ih:=ih QQ;simp only[cnt];rw[ih,ek,show k+1-t=(k-t)+1 from QQ,show k+1-(t+1)=k-t from QQ];simp only[YM];omega
structure Match (l:List Int) (o s:Int) (p i:Nat):Prop where
 lt:p<i
 opener:ix l p=o
 closer:ix l i=s
 above:∀b,p<b->b<=i->YM l o s p+1<=YM l o s b
 meets:YM l o s (i+1)=YM l o s p
theorem Match.up{l:List Int}{o s:Int}{p i n:Nat}(h:Match l o s p i)(hi:i<n):Dy l o s (fun t=>p+t) (n-p) (i:Int):=by
 have hlt:=h.lt;refine .inl ⟨i-p,QQ,⟨?_,?_⟩,fun t ht he=>?_,by show _=((p+(i-p):Nat):Int);omega⟩
 ·show ix l (p+(i-p))=s;rw[show p+(i-p)=i from QQ];exact h.closer
 ·rw[Nk,show p+(i-p+1)=i+1 from QQ,h.meets];omega
 ·have h1:=he.2;rw[Nk]at h1
  have:=h.above (p+(t+1)) QQ QQ;omega
theorem Match.down{l:List Int}{o s:Int}{p i:Nat}(h:Match l o s p i):Dy l s o (fun t=>i-t) (i+1) (p:Int):=by
 have hlt:=h.lt;refine .inl ⟨i-p,QQ,⟨?_,?_⟩,fun t ht he=>?_,by show _=((i-(i-p):Nat):Int);omega⟩
 ·show ix l (i-(i-p))=o;rw[show i-(i-p)=p from QQ];exact h.opener
 ·rw[Am l o s _ _ QQ,show i+1-(i-p+1)=p from QQ,h.meets];omega
 ·have h1:=he.2;rw[Am l o s _ _ QQ,h.meets]at h1
  have:=h.above (i+1-(t+1)) QQ QQ;omega
theorem mq{l:List Int}{o s:Int}{p n:Nat}(h:∀b,p<b->b<=n->YM l o s p+1<=YM l o s b)(hp:p<n):Dy l o s (fun t=>p+t) (n-p) (-1):=by
 refine .inr ⟨fun t ht he=>?_,rfl⟩;have h1:=he.2;rw[Nk]at h1;have:=h (p+(t+1)) QQ QQ;omega
theorem RX{l:List Int}{o s:Int}{i:Nat}(h:∀a,a<=i->YM l o s (i+1)+1<=YM l o s a):Dy l s o (fun t=>i-t) (i+1) (-1):=by
 refine .inr ⟨fun t ht he=>?_,rfl⟩;have h1:=he.2;rw[Am l o s _ _ QQ]at h1;have:=h (i+1-(t+1)) QQ;omega
theorem Uu{l:List Int}{i j:Nat}{x:Int}(h:i≠j):ix (l.set i x) j=ix l j:=by
 simp[ix,List.getElem?_set,h]
theorem AQ{l:List Int}{i:Nat}{x:Int}(h:i<l.length):ix (l.set i x) i=x:=by
 simp[ix,List.getElem?_set,h]
theorem OD{xs:List Int}{x:Int}:ix (xs++[x]) xs.length=x:=by simp[ix]
theorem IQ{xs:List Int}{q:Nat}(h:q<xs.length-1):ix xs.dropLast q=ix xs q:=by
 simp only[ix,Zf,List.getElem?_dropLast,if_pos h]
def Xi(o s:Int):Prop:=(o=40/\s=41)\/(o=91/\s=93)\/(o=123/\s=125)
theorem kindOf(c:Int):(Xz c=0/\∀o s,Xi o s->c≠o/\c≠s)\/(Xi c (Xz c)/\Xz c≠0/\qQ c=false)\/(Xi (Xz c) c/\Xz c≠0/\qQ c=true):=by
 rcases zU c with rfl|rfl|rfl|rfl|rfl|rfl|⟨h1,h2,h3,h4,h5,h6⟩
 case inr.inr.inr.inr.inr.inr=>
  refine .inl ⟨by simp[Xz,h1,h2,h3,h4,h5,h6],fun o s h=>?_⟩;unfold Xi at h;omega
 all_goals simp[Xz,qQ,Xi]
structure Ws (l:List Int) (o s:Int) (i:Nat) (st:List Int):Prop where
 place:∀q,q<st.length->∃p:Nat,ix st q=(p:Int)/\p<i/\ix l p=o/\(∀b,p<b->b<=i->YM l o s p+1<=YM l o s b)/\YM l o s i=YM l o s p+(st.length-q:Int)
 base:∀a,a<=i->YM l o s i-YM l o s a<=(st.length:Int)
theorem Ws.zero(l:List Int)(o s:Int):Ws l o s 0 []:=by
 refine⟨fun q hq=>by simp at hq,fun a ha=>?_⟩;obtain rfl:a=0:=QQ;simp
theorem Ws.skip{l:List Int}{o s:Int}{i:Nat}{st:List Int}(h:Ws l o s i st)(h1:ix l i≠o)(h2:ix l i≠s):Ws l o s (i+1) st:=by
 have hs:YM l o s (i+1)=YM l o s i:=by simp[YM,oC,h1,h2]
 refine⟨fun q hq=>?_,fun a ha=>?_⟩
 ·obtain⟨p,e1,e2,e3,e4,e5⟩:=h.place q hq
  refine⟨p,e1,QQ,e3,fun b hb hb'=>?_,QQ⟩;by_cases e:b=i+1
  ·subst e;rw[hs];exact e4 i e2 (ZB _)
  ·exact e4 b hb QQ
 ·by_cases e:a=i+1
  ·subst e;omega
  ·have:=h.base a QQ;omega
theorem Ws.push{l:List Int}{o s:Int}{i:Nat}{st:List Int}(h:Ws l o s i st)(h1:ix l i=o)(hos:o≠s):Ws l o s (i+1) (st++[(i:Int)]):=by
 have hs:YM l o s (i+1)=YM l o s i+1:=by simp[YM,oC,h1,hos]
 refine⟨fun q hq=>?_,fun a ha=>?_⟩
 ·have hq:q<st.length+1:=by simpa using hq
  by_cases e:q=st.length
  ·subst e
   refine⟨i,OD,QQ,h1,fun b hb hb'=>?_,QY⟩;obtain rfl:b=i+1:=QQ;omega
  ·obtain⟨p,e1,e2,e3,e4,e5⟩:=h.place q QQ
   refine⟨p,by rw[YN QQ,e1],QQ,e3,fun b hb hb'=>?_,QY⟩;by_cases e:b=i+1
   ·subst e;rw[hs];have:=e4 i e2 (ZB _);omega
   ·exact e4 b hb QQ
 ·simp only[Zd,List.length_singleton]
  by_cases e:a=i+1
  ·subst e;omega
  ·have:=h.base a QQ;omega
theorem Ws.none{l:List Int}{o s:Int}{i:Nat}(h:Ws l o s i [])(h1:ix l i=s)(hos:o≠s):Ws l o s (i+1) []/\∀a,a<=i->YM l o s (i+1)+1<=YM l o s a:=by
 have hs:YM l o s (i+1)=YM l o s i-1:=by simp[YM,oC,h1,Ne.symm hos];omega
 refine⟨⟨fun q hq=>by simp at hq,fun a ha=>?_⟩,fun a ha=>?_⟩
 ·by_cases e:a=i+1
  ·subst e;simp
  ·have:=h.base a QQ;simp at this ⊢;omega
 ·have:=h.base a ha;simp at this;omega
theorem Ws.pop{l:List Int}{o s:Int}{i:Nat}{st:List Int}(h:Ws l o s i st)(h1:ix l i=s)(hos:o≠s)(hne:0<st.length):
  Ws l o s (i+1) st.dropLast/\∃p:Nat,ix st (st.length-1)=(p:Int)/\Match l o s p i:=by
 have hs:YM l o s (i+1)=YM l o s i-1:=by simp[YM,oC,h1,Ne.symm hos];omega
 refine⟨⟨fun q hq=>?_,fun a ha=>?_⟩,?_⟩
 ·have hq:q<st.length-1:=by simpa using hq
  obtain⟨p,e1,e2,e3,e4,e5⟩:=h.place q QQ;have e6:YM l o s (i+1)=YM l o s p+((st.dropLast.length:Int)-q):=QY;refine⟨p,by rw[IQ hq,e1],QQ,e3,fun b hb hb'=>?_,e6⟩;by_cases e:b=i+1
  ·subst e;simp at e6;omega
  ·exact e4 b hb QQ
 ·simp only[List.length_dropLast]
  by_cases e:a=i+1
  ·subst e;omega
  ·have:=h.base a QQ;omega
 ·obtain⟨p,e1,e2,e3,e4,e5⟩:=h.place (st.length-1) QQ
  exact⟨p,e1,e2,e3,h1,e4,QQ⟩
structure NT (l:List Int) (i:Nat) (S:PSt):Prop where
 others:∀x,x<i->Xz (ix l x)=0->ix S.out x= -1
 yB:∀o s,Xi o s->∀x,x<i->ix l x=s->(∃p:Nat,Match l o s p x/\ix S.out x=(p:Int))\/(ix S.out x= -1/\∀a,a<=x->YM l o s (x+1)+1<=YM l o s a)
 xh:∀o s,Xi o s->∀x,x<i->ix l x=o->(∃j,j<i/\Match l o s x j/\ix S.out x=(j:Int))\/(ix S.out x= -1/\∃q,q<(S.Jo o).length/\ix (S.Jo o) q=(x:Int))
 D6:∀o s,Xi o s->Ws l o s i (S.Jo o)
theorem Xi.ne{o s:Int}(h:Xi o s):o≠s:=by unfold Xi at h;omega
theorem Xi.same{o s s':Int}(h:Xi o s)(h':Xi o s'):s=s':=QA8
theorem Xi.OJ{o o' s:Int}(h:Xi o s)(h':Xi o' s):o=o':=QA8
theorem Xi.cross{o s o':Int}(h:Xi o s)(h':Xi s o'):False:=QA8
theorem Xi.apart{o s o' s':Int}(h:Xi o s)(h':Xi o' s'):o≠s':=QA8
theorem Xi.other{o s:Int}(h:Xi o s):Xz o=s/\Xz s=o/\qQ o=false/\qQ s=true/\s≠0/\o≠0:=by
 rcases h with⟨rfl,rfl⟩|⟨rfl,rfl⟩|⟨rfl,rfl⟩<;>simp[Xz,qQ]
theorem NT.step{l:List Int}{i n:Nat}{S:PSt}(h:NT l i S)(hn:S.out.length=n)(hi:i<n):NT l (i+1) (UT (ix l i) i S):=by
 rcases kindOf (ix l i)with⟨k0,k1⟩|⟨k0,k1,k2⟩|⟨k0,k1,k2⟩
 ·
  have e:UT (ix l i) i S=⟨S.out.set i (-1),S.Jo⟩:=by simp[UT,k0]
  rw[e];refine⟨fun x hx hx2=>?_,fun o s hk x hx hx2=>?_,fun o s hk x hx hx2=>?_,fun o s hk=>?_⟩
  ·by_cases e:x=i
   ·subst e;exact AQ QQ
   ·show ix (S.out.set i (-1)) x=_;rw[Uu QQ];exact h.others x QQ hx2
  ·by_cases e:x=i
   ·subst e;exact absurd hx2 (k1 o s hk).2
   ·show(∃p:Nat,_/\ix (S.out.set i (-1)) x=_)\/(ix (S.out.set i (-1)) x=_/\_);rw[Uu QQ];exact h.yB o s hk x QQ hx2
  ·by_cases e:x=i
   ·subst e;exact absurd hx2 (k1 o s hk).1
   ·show(∃p:Nat,_/\_/\ix (S.out.set i (-1)) x=_)\/(ix (S.out.set i (-1)) x=_/\_);rw[Uu QQ]
    exact QFB
  ·exact(h.D6 o s hk).skip (k1 o s hk).1 (k1 o s hk).2
 ·
  have e:UT (ix l i) i S=⟨S.out.set i (-1),fun y=>if y=ix l i then S.Jo (ix l i)++[(i:Int)]else S.Jo y⟩:=by simp[UT,k1,k2]
  rw[e];refine⟨fun x hx hx2=>?_,fun o s hk x hx hx2=>?_,fun o s hk x hx hx2=>?_,fun o s hk=>?_⟩
  ·by_cases e:x=i
   ·subst e;exact absurd hx2 k1
   ·show ix (S.out.set i (-1)) x=_;rw[Uu QQ];exact h.others x QQ hx2
  ·by_cases e:x=i
   ·subst e;rw[hx2]at k0;exact(hk.cross k0).elim
   ·show(∃p:Nat,_/\ix (S.out.set i (-1)) x=_)\/(ix (S.out.set i (-1)) x=_/\_);rw[Uu QQ];exact h.yB o s hk x QQ hx2
  ·by_cases e:x=i
   ·subst e
    refine .inr ⟨AQ QQ,?_⟩
    show∃q,q<(if o=ix l x then S.Jo (ix l x)++[(x:Int)]else S.Jo o).length/\ix (if o=ix l x then S.Jo (ix l x)++[(x:Int)]else S.Jo o) q=_
    rw[if_pos hx2.symm];exact⟨(S.Jo (ix l x)).length,QJ,OD⟩
   ·show(∃p:Nat,_/\_/\ix (S.out.set i (-1)) x=_)\/(ix (S.out.set i (-1)) x=_/\∃q,q<(if o=ix l i then S.Jo (ix l i)++[(i:Int)]else S.Jo o).length/\ix (if o=ix l i then S.Jo (ix l i)++[(i:Int)]else S.Jo o) q=_);rw[Uu QQ]
    rcases h.xh o s hk x QQ hx2 with⟨j,h1,h2,h3⟩|⟨h1,q,h2,h3⟩
    ·exact .inl ⟨j,QQ,h2,h3⟩
    ·refine .inr ⟨h1,q,?_,?_⟩
     ·split
      ·rename_i e2;rw[<-e2];simp;omega
      ·exact h2
     ·split
      ·rename_i e2;rw[<-e2,YN h2];exact h3
      ·exact h3
  ·show Ws l o s (i+1) (if o=ix l i then S.Jo (ix l i)++[(i:Int)]else S.Jo o)
   split
   ·rename_i e2;rw[<-e2];exact(h.D6 o s hk).push e2.symm hk.ne
   ·rename_i e2;exact(h.D6 o s hk).skip (fun e=>e2 e.symm) (fun e=>k0.apart hk e)
 ·by_cases hS:S.Jo (Xz (ix l i))=[]
  ·
   have e:UT (ix l i) i S=⟨S.out.set i (-1),S.Jo⟩:=by simp[UT,k1,k2,hS]
   rw[e];have hst:=h.D6 _ _ k0;rw[hS]at hst;obtain⟨QZx,QJM⟩:=hst.none rfl k0.ne;refine⟨fun x hx hx2=>?_,fun o s hk x hx hx2=>?_,fun o s hk x hx hx2=>?_,fun o s hk=>?_⟩
   ·by_cases e:x=i
    ·subst e;exact absurd hx2 k1
    ·show ix (S.out.set i (-1)) x=_;rw[Uu QQ];exact h.others x QQ hx2
   ·by_cases e:x=i
    ·subst e;rw[hx2]at k0 QJM;obtain rfl:=hk.OJ k0
     exact .inr ⟨AQ QQ,QJM⟩
    ·show(∃p:Nat,_/\ix (S.out.set i (-1)) x=_)\/(ix (S.out.set i (-1)) x=_/\_);rw[Uu QQ];exact h.yB o s hk x QQ hx2
   ·by_cases e:x=i
    ·subst e;exact absurd hx2.symm (hk.apart k0)
    ·show(∃p:Nat,_/\_/\ix (S.out.set i (-1)) x=_)\/(ix (S.out.set i (-1)) x=_/\_);rw[Uu QQ]
     exact QFB
   ·by_cases e2:s=ix l i
    ·subst e2;obtain rfl:=hk.OJ k0
     show Ws l _ _ (i+1) (S.Jo _);rw[hS];exact QZx
    ·exact(h.D6 o s hk).skip (fun e=>hk.apart k0 e.symm) (fun e=>e2 e.symm)
  ·
   have hne:0<(S.Jo (Xz (ix l i))).length:=by rcases hh:S.Jo (Xz (ix l i))with _|⟨a,b⟩;exact absurd hh hS;simp
   obtain⟨QZx,p,hp,hm⟩:=(h.D6 _ _ k0).pop rfl k0.ne hne;have hlt:=hm.lt;have e:UT (ix l i) i S=⟨((S.out.set i (-1)).set i (p:Int)).set p (i:Int),fun y=>if y=Xz (ix l i)then(S.Jo (Xz (ix l i))).dropLast else S.Jo y⟩:=by
    simp only[UT,k1,k2,hS,Xn,hp];rfl
   rw[e];have hout:∀x,x<i->x≠p->ix (((S.out.set i (-1)).set i (p:Int)).set p (i:Int)) x=ix S.out x:=fun x hx hxp=>by rw[Uu QQ,Uu QQ,Uu QQ]
   have QJi:ix (((S.out.set i (-1)).set i (p:Int)).set p (i:Int)) i=p:=by rw[Uu QQ,AQ QY]
   have QJh:ix (((S.out.set i (-1)).set i (p:Int)).set p (i:Int)) p=i:=by rw[AQ QY]
   refine⟨fun x hx hx2=>?_,fun o s hk x hx hx2=>?_,fun o s hk x hx hx2=>?_,fun o s hk=>?_⟩
   ·by_cases e:x=i
    ·subst e;exact absurd hx2 k1
    ·have hxp:x≠p:=fun e=>by subst e;rw[hm.opener]at hx2;exact k0.other.2.2.2.2.1 (by rw[<-k0.other.1];exact hx2)
     show ix _ x=_;rw[hout x QQ hxp];exact h.others x QQ hx2
   ·by_cases e:x=i
    ·subst e;subst hx2;obtain rfl:=hk.OJ k0
     exact .inl ⟨p,hm,QJi⟩
    ·have hxp:x≠p:=fun e=>by subst e;exact k0.apart hk (hm.opener.symm.trans hx2)
     show(∃p':Nat,_/\ix (((S.out.set i (-1)).set i (p:Int)).set p (i:Int)) x=_)\/(ix (((S.out.set i (-1)).set i (p:Int)).set p (i:Int)) x=_/\_)
     rw[hout x QQ hxp];exact h.yB o s hk x QQ hx2
   ·by_cases e:x=i
    ·subst e;exact absurd hx2.symm (hk.apart k0)
    ·by_cases hxp:x=p
     ·subst hxp
      have:o=Xz (ix l i):=hx2.symm.trans hm.opener;subst this;obtain rfl:=hk.same k0;exact .inl ⟨i,QQ,hm,QJh⟩
     ·show(∃j,_/\_/\ix (((S.out.set i (-1)).set i (p:Int)).set p (i:Int)) x=_)\/(ix (((S.out.set i (-1)).set i (p:Int)).set p (i:Int)) x=_/\∃q,q<(if o=Xz (ix l i)then(S.Jo (Xz (ix l i))).dropLast else S.Jo o).length/\ix (if o=Xz (ix l i)then(S.Jo (Xz (ix l i))).dropLast else S.Jo o) q=_)
      rw[hout x QQ hxp];rcases h.xh o s hk x QQ hx2 with⟨j,h1,h2,h3⟩|⟨h1,q,h2,h3⟩
      ·exact .inl ⟨j,QQ,h2,h3⟩
      ·refine .inr ⟨h1,q,?_⟩
       split
       ·rename_i e2
        subst e2;have:q≠(S.Jo (Xz (ix l i))).length-1:=fun e=>hxp (by rw[<-e,h3]at hp;exact_mod_cast hp)
        exact⟨QY,by rw[IQ QQ];exact h3⟩
       ·exact⟨h2,h3⟩
   ·show Ws l o s (i+1) (if o=Xz (ix l i)then(S.Jo (Xz (ix l i))).dropLast else S.Jo o)
    split
    ·rename_i e2;subst e2;obtain rfl:=hk.same k0;exact QZx
    ·rename_i e2
     exact(h.D6 o s hk).skip (fun e=>hk.apart k0 e.symm) (fun e=>e2 (by subst e;exact hk.OJ k0))
theorem NT.run(l:List Int)(n i:Nat)(hi:i<=n):NT l i (Jr l n i):=by
 induction i with
 | zero=>exact⟨fun x hx=>QQ,fun o s hk x hx=>QQ,fun o s hk x hx=>QQ,fun o s hk=>Ws.zero l o s⟩
 | succ i ih=>exact(ih QQ).step (n:=n) (qI l n i) QQ
def Jn(l:List Int)(n k:Nat)(r:Int):Prop:=
 if Y9 (ix l k)=0 then r= -1
 else if ix l k=Wn (ix l k)then Dy l (Wn (ix l k)) (Y9 (ix l k)) (fun t=>k-t) (k+1) r
 else Dy l (Y9 (ix l k)) (Wn (ix l k)) (fun t=>k+t) (n-k) r
theorem KA(l:List Int)(n k:Nat)(hk:k<n):Jn l n k (ix (Jr l n n).out k):=by
 have h:=NT.run l n n (ZB _);have hop:∀o s,Xi o s->Y9 o=o/\Wn o=s/\Y9 s=o/\Wn s=s:=by
  rintro o s (⟨rfl,rfl⟩|⟨rfl,rfl⟩|⟨rfl,rfl⟩)<;>simp[Y9,Wn]
 unfold Jn;rcases kindOf (ix l k)with⟨k0,k1⟩|⟨k0,k1,k2⟩|⟨k0,k1,k2⟩
 ·have h40:=k1 40 41 (.inl ⟨rfl,rfl⟩)
  have h91:=k1 91 93 (.inr (.inl ⟨rfl,rfl⟩));have QW9:=k1 123 125 (.inr (.inr ⟨rfl,rfl⟩));rw[if_pos (by simp[Y9,h40,h91,QW9])];exact h.others k hk k0
 ·have hh:=k0.other
  have ho:=hop _ _ k0;rw[ho.1,ho.2.1,if_neg hh.2.2.2.2.2,if_neg k0.ne];rcases h.xh _ _ k0 k hk rfl with⟨j,h1,h2,h3⟩|⟨h1,q,h2,h3⟩
  ·rw[h3];exact h2.up h1
  ·rw[h1]
   obtain⟨p,e1,e2,e3,e4,e5⟩:=(h.D6 _ _ k0).place q h2;obtain rfl:p=k:=by rw[h3]at e1;exact_mod_cast e1.symm
   exact mq e4 hk
 ·have hh:=k0.other
  have ho:=hop _ _ k0;rw[ho.2.2.1,ho.2.2.2,if_neg hh.2.2.2.2.2,if_pos rfl];rcases h.yB _ _ k0 k hk rfl with⟨p,h1,h2⟩|⟨h1,h2⟩
  ·rw[h2];exact h1.down
  ·rw[h1];exact RX h2
end Go.Proofs.YtmdcencmiopmmaaGreat
namespace Go.Proofs.YtmdcencmiopmmaaGreat
open Go.RowKit
def Vm(p:Nat->Bool)(i:Nat):Nat->Option Nat
 | 0=>none
 | m+1=>if p i then some i else Vm p (i+1) m
def VJ(p:Nat->Bool):Nat->Option Nat
 | 0=>none
 | i+1=>if p i then some i else VJ p i
theorem Yh{p:Nat->Bool}{m:Nat}:∀{i r:Nat},Vm p i m=some r->i<=r/\r<i+m/\p r=true/\∀j,i<=j->j<r->p j=false:=by
 induction m with
 | zero=>intro i r h;simp[Vm]at h
 | succ m ih=>
  intro i r h;unfold Vm at h;cases hp:p i
  ·rw[if_neg (by simp[hp])]at h
   obtain⟨h1,h2,h3,h4⟩:=ih h;refine⟨QQ,QQ,h3,fun j hj hjr=>?_⟩;rcases Nat.eq_or_lt_of_le hj with rfl|hlt
   ·exact hp
   ·exact h4 j hlt hjr
  ·rw[if_pos hp]at h
   simp at h;subst h;exact⟨ZB _,QQ,hp,fun j hj hjr=>QQ⟩
theorem VI{p:Nat->Bool}{m:Nat}:∀{i:Nat},Vm p i m=none->∀j,i<=j->j<i+m->p j=false:=by
 induction m with
 | zero=>intro i _ j h1 h2;omega
 | succ m ih=>
  intro i h j h1 h2;unfold Vm at h;cases hp:p i
  ·rw[if_neg (by simp[hp])]at h
   rcases Nat.eq_or_lt_of_le h1 with rfl|hlt
   ·exact hp
   ·exact ih h j hlt QQ
  ·rw[if_pos hp]at h;simp at h
theorem BD{p:Nat->Bool}{i:Nat}:∀{r:Nat},VJ p i=some r->r<i/\p r=true/\∀j,r<j->j<i->p j=false:=by
 induction i with
 | zero=>intro r h;simp[VJ]at h
 | succ i ih=>
  intro r h;unfold VJ at h;cases hp:p i
  ·rw[if_neg (by simp[hp])]at h
   obtain⟨h1,h2,h3⟩:=ih h;refine⟨QQ,h2,fun j hj hji=>?_⟩;rcases XK.1 hji with h|rfl
   ·exact h3 j hj h
   ·exact hp
  ·rw[if_pos hp]at h
   simp at h;subst h;exact⟨QQ,hp,fun j hj hji=>QQ⟩
theorem BF{p:Nat->Bool}{i:Nat}:VJ p i=none->∀j,j<i->p j=false:=by
 induction i with
 | zero=>intro _ j h;omega
 | succ i ih=>
  intro h j hj;unfold VJ at h;cases hp:p i
  ·rw[if_neg (by simp[hp])]at h
   rcases XK.1 hj with h'|rfl
   ·exact ih h j h'
   ·exact hp
  ·rw[if_pos hp]at h;simp at h
def JP(l:List Int)(big:Bool)(k:Int):Int:=
 match Vm (fun i=>uB l big i) (k.toNat+1) (l.length-(k.toNat+1))with
 | some r=>(r:Int)
 | none=>(l.length:Int)
def Km(l:List Int)(big:Bool)(k:Int):Int:=
 match VJ (fun i=>decide (0<i)&&uB l big i) k.toNat with
 | some r=>(r:Int)
 | none=>0
def VE(l:List Int)(big:Bool)(k:Int):Int:=
 match Vm (fun i=>eQ l big i) (k.toNat+1) (l.length-(k.toNat+1))with
 | some r=>(r:Int)
 | none=>max 0 ((l.length:Int)-1)
theorem Cm(l:List Int)(big:Bool)(k:Int)(h0:0<=k)(hk:k<=l.length):Om l big k (JP l big k):=by
 unfold JP;split
 ·rename_i r h
  obtain⟨h1,h2,h3,h4⟩:=Yh h;refine⟨.inl ⟨QQ,QQ,(Kl _ _ _).1 h3⟩,fun j hj hjr _ hb=>?_⟩;have:=h4 j.toNat QQ QQ;rw[show((j.toNat:Nat):Int)=j from QQ,(Kl _ _ _).2 hb]at this;simp at this
 ·rename_i h
  refine⟨.inr rfl,fun j hj _ hjl hb=>?_⟩;have:=VI h j.toNat QQ QQ;rw[show((j.toNat:Nat):Int)=j from QQ,(Kl _ _ _).2 hb]at this;simp at this
theorem Wu(l:List Int)(big:Bool)(k:Int)(h0:0<=k):Oo l big k (Km l big k):=by
 unfold Km;split
 ·rename_i r h
  obtain⟨h1,h2,h3⟩:=BD h;simp only[Bool.and_eq_true,XI]at h2;refine⟨.inl ⟨QQ,QQ,(Kl _ _ _).1 h2.2⟩,fun j hj hjk hj0 hb=>?_⟩;have:=h3 j.toNat QQ QQ;exact QF7
 ·rename_i h
  refine⟨.inr rfl,fun j hj hjk hj0 hb=>?_⟩;have:=BF h j.toNat QQ;exact QF7
theorem yu(l:List Int)(big:Bool)(k:Int)(h0:0<=k):fD l big k (VE l big k):=by
 unfold VE;split
 ·rename_i r h
  obtain⟨h1,h2,h3,h4⟩:=Yh h;refine .inl ⟨QQ,QQ,(jT _ _ _).1 h3,fun j hj hjr hb=>?_⟩;have:=h4 j.toNat QQ QQ;rw[show((j.toNat:Nat):Int)=j from QQ,(jT _ _ _).2 hb]at this;simp at this
 ·rename_i h
  refine .inr ⟨rfl,fun j hj hjl hb=>?_⟩;have:=VI h j.toNat QQ QQ;rw[show((j.toNat:Nat):Int)=j from QQ,(jT _ _ _).2 hb]at this;simp at this
theorem xw(l:List Int)(big:Bool)(k:Int)(h0:0<=k)(hk:k<=l.length):0<=JP l big k/\JP l big k<=l.length:=by
 rcases(Cm l big k h0 hk).1 with h|h<;>omega
theorem Ii(l:List Int)(big:Bool)(k:Int)(h0:0<=k)(hk:k<=l.length):0<=Km l big k/\Km l big k<=l.length:=by
 rcases(Wu l big k h0).1 with h|h<;>omega
theorem Fz(l:List Int)(big:Bool)(k:Int)(h0:0<=k)(hk:k<=l.length):0<=VE l big k/\VE l big k<=l.length:=by
 rcases yu l big k h0 with h|h<;>omega
def YO(f:Int->Int):Nat->Int->Int
 | 0,k=>k
 | n+1,k=>f (YO f n k)
theorem KE{f:Int->Int}{lo hi:Int}(hf:∀k,lo<=k->k<=hi->lo<=f k/\f k<=hi){k:Int}(h0:lo<=k)(h1:k<=hi):∀n,lo<=YO f n k/\YO f n k<=hi:=by
 intro n;induction n with
 | zero=>exact⟨h0,h1⟩
 | succ n ih=>exact hf _ ih.1 ih.2
def Kz(l:List Int):Int:=
 match Vm (fun i=>decide (Xt (ix l i) true≠0)) 0 l.length with
 | some r=>(r:Int)
 | none=>max 0 ((l.length:Int)-1)
def Oy(l:List Int)(c:Int)(i:Nat):Nat->List Int
 | 0=>[]
 | m+1=>if ix l i=c then(i:Int)::Oy l c (i+1) m else Oy l c (i+1) m
def Oj(l:List Int)(c:Int):Nat->List Int
 | 0=>[]
 | i+1=>if ix l i=c then(i:Int)::Oj l c i else Oj l c i
theorem mZ{l:List Int}{c:Int}{i m:Nat}(h:ix l i=c):Oy l c i (m+1)=(i:Int)::Oy l c (i+1) m:=if_pos h
theorem aT{l:List Int}{c:Int}{i m:Nat}(h:ix l i≠c):Oy l c i (m+1)=Oy l c (i+1) m:=if_neg h
theorem mX{l:List Int}{c:Int}{i:Nat}(h:ix l i=c):Oj l c (i+1)=(i:Int)::Oj l c i:=if_pos h
theorem ae{l:List Int}{c:Int}{i:Nat}(h:ix l i≠c):Oj l c (i+1)=Oj l c i:=if_neg h
theorem vF(l:List Int)(c:Int)(m:Nat):∀i,∀x∈Oy l c i m,(i:Int)<=x/\x<i+m:=by
 induction m with
 | zero=>intro i x hx;simp[Oy]at hx
 | succ m ih=>
  intro i x hx;unfold Oy at hx;split at hx
  ·rcases Zb.1 hx with rfl|hx
   ·omega
   ·have:=ih _ x hx;omega
  ·have:=ih _ x hx;omega
theorem Eu(l:List Int)(c:Int)(i:Nat):∀x∈Oj l c i,0<=x/\x<i:=by
 induction i with
 | zero=>intro x hx;simp[Oj]at hx
 | succ i ih=>
  intro x hx;unfold Oj at hx;split at hx
  ·rcases Zb.1 hx with rfl|hx
   ·omega
   ·have:=ih x hx;omega
  ·have:=ih x hx;omega
def JX(l:List Int)(k:Nat)(c:Int):List Int:=Oy l c (k+1) (l.length-(k+1))
def Jz(l:List Int)(k:Nat)(c:Int):List Int:=Oj l c k
def Ke(l:List Int)(k:Nat):Int:=
 match Vm (fun i=>decide (Y9 (ix l i)≠0)) k (l.length-k)with
 | some r=>ix (Jr l l.length l.length).out r
 | none=> -1
def Ye(l:List Int)(k:Nat)(key n arg:Int)(op:Bool):Option (Int×Bool):=
 if key=104 then(if k=0 then none else some (max 0 (k-n),false))
 else if key=108 then(if(if op then(l.length:Int)else l.length-1)<=k then none else some (min (if op then(l.length:Int)else l.length-1) (k+n),false))
 else if key=48 then some (0,false)
 else if key=94 then some (Kz l,false)
 else if key=98\/key=66 then(if k=0 then none else some (YO (Km l (key==66)) n.toNat k,false))
 else if key=102\/key=116 then(match(JX l k arg)[n.toNat-1]? with|some at'=>some (if key=116 then at'-1 else at',true)|none=>none)
 else if key=70\/key=84 then(match(Jz l k arg)[n.toNat-1]? with|some at'=>some (if key=84 then at'+1 else at',false)|none=>none)
 else if l.length=0 then none
 else if key=36 then some (l.length-1,true)
 else if key=124 then some (min n l.length-1,false)
 else if key=119\/key=87 then
  (
   if op then some (YO (JP l (key==87)) n.toNat k,false)
   else if min (YO (JP l (key==87)) n.toNat k) (l.length-1)=k then none else some (min (YO (JP l (key==87)) n.toNat k) (l.length-1),false))
 else if key=101\/key=69 then
  (if op=false/\YO (VE l (key==69)) n.toNat k=k then none else some (YO (VE l (key==69)) n.toNat k,true))
 else if Ke l k<0 then none else some (Ke l k,true)
def Kq(key:Int):Bool:=[104,108,48,94,36,124,119,87,98,66,101,69,37,102,70,116,84].contains key
def JH(l:List Int)(k key count:Int):Int:=
 if 4096<l.length then 2 else if k<0\/(0<k/\(l.length:Int)<=k)\/count<0\/999<count then 1 else if Kq key then 0 else 9
end Go.Proofs.YtmdcencmiopmmaaGreat
