/- LiftTopBounds: joined, no condition of its own. -/
import Derived.Test.YtmdcencmiopmmaaGreatTbJoinT
import Derived.Test.YtmdcencmiopmmaaGreatTbJoinJ3
set_option linter.unusedVariables false
set_option linter.unusedSimpArgs false
set_option maxRecDepth 100000
set_option maxHeartbeats 12000000
namespace Go.Proofs.YtmdcencmiopmmaaGreat
theorem Jg{l:List Int}{i j:Nat}{x:Int}(h:i≠j):ix (l.set i x) j=ix l j:=by
 simp[ix,List.getElem?_set,h]
theorem j5{l:List Int}{i:Nat}{x:Int}(h:i<l.length):ix (l.set i x) i=x:=by
 simp[ix,List.getElem?_set,h]
theorem Ls{xs:List Int}{x:Int}:ix (xs++[x]) xs.length=x:=by simp[ix]
theorem Eh{xs:List Int}{q:Nat}(h:q<xs.length-1):ix xs.dropLast q=ix xs q:=by
 simp only[ix,QN,List.getElem?_dropLast,if_pos h]
def ZH(o s:Int):Prop:=(o=40/\s=41)\/(o=91/\s=93)\/(o=123/\s=125)
theorem kindOf(c:Int):(Q0 c=0/\∀o s,ZH o s->c≠o/\c≠s)\/(ZH c (Q0 c)/\Q0 c≠0/\Vy c=false)\/(ZH (Q0 c) c/\Q0 c≠0/\Vy c=true):=by
 rcases WX c with rfl|rfl|rfl|rfl|rfl|rfl|⟨h1,h2,h3,h4,h5,h6⟩
 case inr.inr.inr.inr.inr.inr=>
  refine .inl ⟨by simp[Q0,h1,h2,h3,h4,h5,h6],fun o s h=>?_⟩;unfold ZH at h;omega
 all_goals simp[Q0,Vy,ZH]
structure VW (l:List Int) (o s:Int) (i:Nat) (st:List Int):Prop where
 place:∀q,q<st.length->∃p:Nat,ix st q=(p:Int)/\p<i/\ix l p=o/\(∀b,p<b->b<=i->Xy l o s p+1<=Xy l o s b)/\Xy l o s i=Xy l o s p+(st.length-q:Int)
 base:∀a,a<=i->Xy l o s i-Xy l o s a<=(st.length:Int)
theorem VW.zero(l:List Int)(o s:Int):VW l o s 0 []:=by
 refine⟨fun q hq=>by simp at hq,fun a ha=>?_⟩;obtain rfl:a=0:=by omega
 simp
theorem VW.skip{l:List Int}{o s:Int}{i:Nat}{st:List Int}(h:VW l o s i st)(h1:ix l i≠o)(h2:ix l i≠s):VW l o s (i+1) st:=by
 have hs:Xy l o s (i+1)=Xy l o s i:=by simp[Xy,gz,h1,h2]
 refine⟨fun q hq=>?_,fun a ha=>?_⟩
 ·obtain⟨p,e1,e2,e3,e4,e5⟩:=h.place q hq
  refine⟨p,e1,by omega,e3,fun b hb hb'=>?_,by omega⟩;by_cases e:b=i+1
  ·subst e;rw[hs];exact e4 i e2 (QU _)
  ·exact e4 b hb (by omega)
 ·by_cases e:a=i+1
  ·subst e;omega
  ·have:=h.base a (by omega);omega
theorem VW.push{l:List Int}{o s:Int}{i:Nat}{st:List Int}(h:VW l o s i st)(h1:ix l i=o)(hos:o≠s):VW l o s (i+1) (st++[(i:Int)]):=by
 have hs:Xy l o s (i+1)=Xy l o s i+1:=by simp[Xy,gz,h1,hos]
 refine⟨fun q hq=>?_,fun a ha=>?_⟩
 ·have hq:q<st.length+1:=by simpa using hq
  by_cases e:q=st.length
  ·subst e
   refine⟨i,Ls,by omega,h1,fun b hb hb'=>?_,by simp;omega⟩;obtain rfl:b=i+1:=by omega
   omega
  ·obtain⟨p,e1,e2,e3,e4,e5⟩:=h.place q (by omega)
   refine⟨p,by rw[Xj (by omega),e1],by omega,e3,fun b hb hb'=>?_,by simp;omega⟩;by_cases e:b=i+1
   ·subst e;rw[hs];have:=e4 i e2 (QU _);omega
   ·exact e4 b hb (by omega)
 ·simp only[QE,List.length_singleton]
  by_cases e:a=i+1
  ·subst e;omega
  ·have:=h.base a (by omega);omega
theorem VW.none{l:List Int}{o s:Int}{i:Nat}(h:VW l o s i [])(h1:ix l i=s)(hos:o≠s):VW l o s (i+1) []/\∀a,a<=i->Xy l o s (i+1)+1<=Xy l o s a:=by
 have hs:Xy l o s (i+1)=Xy l o s i-1:=by simp[Xy,gz,h1,Ne.symm hos];omega
 refine⟨⟨fun q hq=>by simp at hq,fun a ha=>?_⟩,fun a ha=>?_⟩
 ·by_cases e:a=i+1
  ·subst e;simp
  ·have:=h.base a (by omega);simp at this ⊢;omega
 ·have:=h.base a ha;simp at this;omega
theorem VW.pop{l:List Int}{o s:Int}{i:Nat}{st:List Int}(h:VW l o s i st)(h1:ix l i=s)(hos:o≠s)(hne:0<st.length):
  VW l o s (i+1) st.dropLast/\∃p:Nat,ix st (st.length-1)=(p:Int)/\Match l o s p i:=by
 have hs:Xy l o s (i+1)=Xy l o s i-1:=by simp[Xy,gz,h1,Ne.symm hos];omega
 refine⟨⟨fun q hq=>?_,fun a ha=>?_⟩,?_⟩
 ·have hq:q<st.length-1:=by simpa using hq
  obtain⟨p,e1,e2,e3,e4,e5⟩:=h.place q (by omega);have e6:Xy l o s (i+1)=Xy l o s p+((st.dropLast.length:Int)-q):=by simp;omega
  refine⟨p,by rw[Eh hq,e1],by omega,e3,fun b hb hb'=>?_,e6⟩;by_cases e:b=i+1
  ·subst e;simp at e6;omega
  ·exact e4 b hb (by omega)
 ·simp only[List.length_dropLast]
  by_cases e:a=i+1
  ·subst e;omega
  ·have:=h.base a (by omega);omega
 ·obtain⟨p,e1,e2,e3,e4,e5⟩:=h.place (st.length-1) (by omega)
  exact⟨p,e1,e2,e3,h1,e4,by omega⟩
structure I9 (l:List Int) (i:Nat) (S:PSt):Prop where
 others:∀x,x<i->Q0 (ix l x)=0->ix S.out x= -1
 qo:∀o s,ZH o s->∀x,x<i->ix l x=s->(∃p:Nat,Match l o s p x/\ix S.out x=(p:Int))\/(ix S.out x= -1/\∀a,a<=x->Xy l o s (x+1)+1<=Xy l o s a)
 qI:∀o s,ZH o s->∀x,x<i->ix l x=o->(∃j,j<i/\Match l o s x j/\ix S.out x=(j:Int))\/(ix S.out x= -1/\∃q,q<(S.YM o).length/\ix (S.YM o) q=(x:Int))
 BD:∀o s,ZH o s->VW l o s i (S.YM o)
theorem ZH.ne{o s:Int}(h:ZH o s):o≠s:=by unfold ZH at h;omega
theorem ZH.same{o s s':Int}(h:ZH o s)(h':ZH o s'):s=s':=by unfold ZH at h h';omega
theorem ZH.LM{o o' s:Int}(h:ZH o s)(h':ZH o' s):o=o':=by unfold ZH at h h';omega
theorem ZH.cross{o s o':Int}(h:ZH o s)(h':ZH s o'):False:=by unfold ZH at h h';omega
theorem ZH.apart{o s o' s':Int}(h:ZH o s)(h':ZH o' s'):o≠s':=by unfold ZH at h h';omega
theorem ZH.other{o s:Int}(h:ZH o s):Q0 o=s/\Q0 s=o/\Vy o=false/\Vy s=true/\s≠0/\o≠0:=by
 rcases h with⟨rfl,rfl⟩|⟨rfl,rfl⟩|⟨rfl,rfl⟩<;>simp[Q0,Vy]
theorem I9.step{l:List Int}{i n:Nat}{S:PSt}(h:I9 l i S)(hn:S.out.length=n)(hi:i<n):I9 l (i+1) (J7 (ix l i) i S):=by
 rcases kindOf (ix l i)with⟨k0,k1⟩|⟨k0,k1,k2⟩|⟨k0,k1,k2⟩
 ·
  have e:J7 (ix l i) i S=⟨S.out.set i (-1),S.YM⟩:=by simp[J7,k0]
  rw[e];refine⟨fun x hx hx2=>?_,fun o s hk x hx hx2=>?_,fun o s hk x hx hx2=>?_,fun o s hk=>?_⟩
  ·by_cases e:x=i
   ·subst e;exact j5 (by omega)
   ·show ix (S.out.set i (-1)) x=_;rw[Jg (by omega)];exact h.others x (by omega) hx2
  ·by_cases e:x=i
   ·subst e;exact absurd hx2 (k1 o s hk).2
   ·show(∃p:Nat,_/\ix (S.out.set i (-1)) x=_)\/(ix (S.out.set i (-1)) x=_/\_);rw[Jg (by omega)];exact h.qo o s hk x (by omega) hx2
  ·by_cases e:x=i
   ·subst e;exact absurd hx2 (k1 o s hk).1
   ·show(∃p:Nat,_/\_/\ix (S.out.set i (-1)) x=_)\/(ix (S.out.set i (-1)) x=_/\_);rw[Jg (by omega)]
    exact Qvt
  ·exact(h.BD o s hk).skip (k1 o s hk).1 (k1 o s hk).2
 ·
  have e:J7 (ix l i) i S=⟨S.out.set i (-1),fun y=>if y=ix l i then S.YM (ix l i)++[(i:Int)]else S.YM y⟩:=by simp[J7,k1,k2]
  rw[e];refine⟨fun x hx hx2=>?_,fun o s hk x hx hx2=>?_,fun o s hk x hx hx2=>?_,fun o s hk=>?_⟩
  ·by_cases e:x=i
   ·subst e;exact absurd hx2 k1
   ·show ix (S.out.set i (-1)) x=_;rw[Jg (by omega)];exact h.others x (by omega) hx2
  ·by_cases e:x=i
   ·subst e;rw[hx2]at k0;exact(hk.cross k0).elim
   ·show(∃p:Nat,_/\ix (S.out.set i (-1)) x=_)\/(ix (S.out.set i (-1)) x=_/\_);rw[Jg (by omega)];exact h.qo o s hk x (by omega) hx2
  ·by_cases e:x=i
   ·subst e
    refine .inr ⟨j5 (by omega),?_⟩
    show∃q,q<(if o=ix l x then S.YM (ix l x)++[(x:Int)]else S.YM o).length/\ix (if o=ix l x then S.YM (ix l x)++[(x:Int)]else S.YM o) q=_
    rw[if_pos hx2.symm];exact⟨(S.YM (ix l x)).length,by simp,Ls⟩
   ·show(∃p:Nat,_/\_/\ix (S.out.set i (-1)) x=_)\/(ix (S.out.set i (-1)) x=_/\∃q,q<(if o=ix l i then S.YM (ix l i)++[(i:Int)]else S.YM o).length/\ix (if o=ix l i then S.YM (ix l i)++[(i:Int)]else S.YM o) q=_);rw[Jg (by omega)]
    rcases h.qI o s hk x (by omega) hx2 with⟨j,h1,h2,h3⟩|⟨h1,q,h2,h3⟩
    ·exact .inl ⟨j,by omega,h2,h3⟩
    ·refine .inr ⟨h1,q,?_,?_⟩
     ·split
      ·rename_i e2;rw[<-e2];simp;omega
      ·exact h2
     ·split
      ·rename_i e2;rw[<-e2,Xj h2];exact h3
      ·exact h3
  ·show VW l o s (i+1) (if o=ix l i then S.YM (ix l i)++[(i:Int)]else S.YM o)
   split
   ·rename_i e2;rw[<-e2];exact(h.BD o s hk).push e2.symm hk.ne
   ·rename_i e2;exact(h.BD o s hk).skip (fun e=>e2 e.symm) (fun e=>k0.apart hk e)
 ·by_cases hS:S.YM (Q0 (ix l i))=[]
  ·
   have e:J7 (ix l i) i S=⟨S.out.set i (-1),S.YM⟩:=by simp[J7,k1,k2,hS]
   rw[e];have hst:=h.BD _ _ k0;rw[hS]at hst;obtain⟨pF,QZ4⟩:=hst.none rfl k0.ne;refine⟨fun x hx hx2=>?_,fun o s hk x hx hx2=>?_,fun o s hk x hx hx2=>?_,fun o s hk=>?_⟩
   ·by_cases e:x=i
    ·subst e;exact absurd hx2 k1
    ·show ix (S.out.set i (-1)) x=_;rw[Jg (by omega)];exact h.others x (by omega) hx2
   ·by_cases e:x=i
    ·subst e;rw[hx2]at k0 QZ4;obtain rfl:=hk.LM k0
     exact .inr ⟨j5 (by omega),QZ4⟩
    ·show(∃p:Nat,_/\ix (S.out.set i (-1)) x=_)\/(ix (S.out.set i (-1)) x=_/\_);rw[Jg (by omega)];exact h.qo o s hk x (by omega) hx2
   ·by_cases e:x=i
    ·subst e;exact absurd hx2.symm (hk.apart k0)
    ·show(∃p:Nat,_/\_/\ix (S.out.set i (-1)) x=_)\/(ix (S.out.set i (-1)) x=_/\_);rw[Jg (by omega)]
     exact Qvt
   ·by_cases e2:s=ix l i
    ·subst e2;obtain rfl:=hk.LM k0
     show VW l _ _ (i+1) (S.YM _);rw[hS];exact pF
    ·exact(h.BD o s hk).skip (fun e=>hk.apart k0 e.symm) (fun e=>e2 e.symm)
  ·
   have hne:0<(S.YM (Q0 (ix l i))).length:=by rcases hh:S.YM (Q0 (ix l i))with _|⟨a,b⟩;exact absurd hh hS;simp
   obtain⟨pF,p,hp,hm⟩:=(h.BD _ _ k0).pop rfl k0.ne hne;have hlt:=hm.lt;have e:J7 (ix l i) i S=⟨((S.out.set i (-1)).set i (p:Int)).set p (i:Int),fun y=>if y=Q0 (ix l i)then(S.YM (Q0 (ix l i))).dropLast else S.YM y⟩:=by
    simp only[J7,k1,k2,hS,ZM,hp];rfl
   rw[e];have hout:∀x,x<i->x≠p->ix (((S.out.set i (-1)).set i (p:Int)).set p (i:Int)) x=ix S.out x:=fun x hx hxp=>by rw[Jg (by omega),Jg (by omega),Jg (by omega)]
   have QXK:ix (((S.out.set i (-1)).set i (p:Int)).set p (i:Int)) i=p:=by rw[Jg (by omega),j5 (by simp;omega)]
   have QXJ:ix (((S.out.set i (-1)).set i (p:Int)).set p (i:Int)) p=i:=by rw[j5 (by simp;omega)]
   refine⟨fun x hx hx2=>?_,fun o s hk x hx hx2=>?_,fun o s hk x hx hx2=>?_,fun o s hk=>?_⟩
   ·by_cases e:x=i
    ·subst e;exact absurd hx2 k1
    ·have hxp:x≠p:=fun e=>by subst e;rw[hm.opener]at hx2;exact k0.other.2.2.2.2.1 (by rw[<-k0.other.1];exact hx2)
     show ix _ x=_;rw[hout x (by omega) hxp];exact h.others x (by omega) hx2
   ·by_cases e:x=i
    ·subst e;subst hx2;obtain rfl:=hk.LM k0
     exact .inl ⟨p,hm,QXK⟩
    ·have hxp:x≠p:=fun e=>by subst e;exact k0.apart hk (hm.opener.symm.trans hx2)
     show(∃p':Nat,_/\ix (((S.out.set i (-1)).set i (p:Int)).set p (i:Int)) x=_)\/(ix (((S.out.set i (-1)).set i (p:Int)).set p (i:Int)) x=_/\_)
     rw[hout x (by omega) hxp];exact h.qo o s hk x (by omega) hx2
   ·by_cases e:x=i
    ·subst e;exact absurd hx2.symm (hk.apart k0)
    ·by_cases hxp:x=p
     ·subst hxp
      have:o=Q0 (ix l i):=hx2.symm.trans hm.opener;subst this;obtain rfl:=hk.same k0;exact .inl ⟨i,by omega,hm,QXJ⟩
     ·show(∃j,_/\_/\ix (((S.out.set i (-1)).set i (p:Int)).set p (i:Int)) x=_)\/(ix (((S.out.set i (-1)).set i (p:Int)).set p (i:Int)) x=_/\∃q,q<(if o=Q0 (ix l i)then(S.YM (Q0 (ix l i))).dropLast else S.YM o).length/\ix (if o=Q0 (ix l i)then(S.YM (Q0 (ix l i))).dropLast else S.YM o) q=_)
      rw[hout x (by omega) hxp];rcases h.qI o s hk x (by omega) hx2 with⟨j,h1,h2,h3⟩|⟨h1,q,h2,h3⟩
      ·exact .inl ⟨j,by omega,h2,h3⟩
      ·refine .inr ⟨h1,q,?_⟩
       split
       ·rename_i e2
        subst e2;have:q≠(S.YM (Q0 (ix l i))).length-1:=fun e=>hxp (by rw[<-e,h3]at hp;exact_mod_cast hp)
        exact⟨by simp;omega,by rw[Eh (by omega)];exact h3⟩
       ·exact⟨h2,h3⟩
   ·show VW l o s (i+1) (if o=Q0 (ix l i)then(S.YM (Q0 (ix l i))).dropLast else S.YM o)
    split
    ·rename_i e2;subst e2;obtain rfl:=hk.same k0;exact pF
    ·rename_i e2
     exact(h.BD o s hk).skip (fun e=>hk.apart k0 e.symm) (fun e=>e2 (by subst e;exact hk.LM k0))
theorem I9.run(l:List Int)(n i:Nat)(hi:i<=n):I9 l i (YO l n i):=by
 induction i with
 | zero=>exact⟨fun x hx=>by omega,fun o s hk x hx=>by omega,fun o s hk x hx=>by omega,fun o s hk=>VW.zero l o s⟩
 | succ i ih=>exact(ih (by omega)).step (n:=n) (VT l n i) (by omega)
def YL(l:List Int)(n k:Nat)(r:Int):Prop:=
 if Xl (ix l k)=0 then r= -1
 else if ix l k=VK (ix l k)then Ai l (VK (ix l k)) (Xl (ix l k)) (fun t=>k-t) (k+1) r
 else Ai l (Xl (ix l k)) (VK (ix l k)) (fun t=>k+t) (n-k) r
theorem Y2(l:List Int)(n k:Nat)(hk:k<n):YL l n k (ix (YO l n n).out k):=by
 have h:=I9.run l n n (QU _);have hop:∀o s,ZH o s->Xl o=o/\VK o=s/\Xl s=o/\VK s=s:=by
  rintro o s (⟨rfl,rfl⟩|⟨rfl,rfl⟩|⟨rfl,rfl⟩)<;>simp[Xl,VK]
 unfold YL;rcases kindOf (ix l k)with⟨k0,k1⟩|⟨k0,k1,k2⟩|⟨k0,k1,k2⟩
 ·have h40:=k1 40 41 (.inl ⟨rfl,rfl⟩)
  have h91:=k1 91 93 (.inr (.inl ⟨rfl,rfl⟩));have QUx:=k1 123 125 (.inr (.inr ⟨rfl,rfl⟩));rw[if_pos (by simp[Xl,h40,h91,QUx])];exact h.others k hk k0
 ·have hh:=k0.other
  have ho:=hop _ _ k0;rw[ho.1,ho.2.1,if_neg hh.2.2.2.2.2,if_neg k0.ne];rcases h.qI _ _ k0 k hk rfl with⟨j,h1,h2,h3⟩|⟨h1,q,h2,h3⟩
  ·rw[h3];exact h2.up h1
  ·rw[h1]
   obtain⟨p,e1,e2,e3,e4,e5⟩:=(h.BD _ _ k0).place q h2;obtain rfl:p=k:=by rw[h3]at e1;exact_mod_cast e1.symm
   exact eQ e4 hk
 ·have hh:=k0.other
  have ho:=hop _ _ k0;rw[ho.2.2.1,ho.2.2.2,if_neg hh.2.2.2.2.2,if_pos rfl];rcases h.qo _ _ k0 k hk rfl with⟨p,h1,h2⟩|⟨h1,h2⟩
  ·rw[h2];exact h1.down
  ·rw[h1];exact NP h2
end Go.Proofs.YtmdcencmiopmmaaGreat
namespace Go.Proofs.YtmdcencmiopmmaaGreat
open Go.RowKit
def UA(p:Nat->Bool)(i:Nat):Nat->Option Nat
 | 0=>none
 | m+1=>if p i then some i else UA p (i+1) m
def KT(p:Nat->Bool):Nat->Option Nat
 | 0=>none
 | i+1=>if p i then some i else KT p i
theorem XI{p:Nat->Bool}{m:Nat}:∀{i r:Nat},UA p i m=some r->i<=r/\r<i+m/\p r=true/\∀j,i<=j->j<r->p j=false:=by
 induction m with
 | zero=>intro i r h;simp[UA]at h
 | succ m ih=>
  intro i r h;unfold UA at h;cases hp:p i
  ·rw[if_neg (by simp[hp])]at h
   obtain⟨h1,h2,h3,h4⟩:=ih h;refine⟨by omega,by omega,h3,fun j hj hjr=>?_⟩;rcases Nat.eq_or_lt_of_le hj with rfl|hlt
   ·exact hp
   ·exact h4 j hlt hjr
  ·rw[if_pos hp]at h
   simp at h;subst h;exact⟨QU _,by omega,hp,fun j hj hjr=>by omega⟩
theorem UZ{p:Nat->Bool}{m:Nat}:∀{i:Nat},UA p i m=none->∀j,i<=j->j<i+m->p j=false:=by
 induction m with
 | zero=>intro i _ j h1 h2;omega
 | succ m ih=>
  intro i h j h1 h2;unfold UA at h;cases hp:p i
  ·rw[if_neg (by simp[hp])]at h
   rcases Nat.eq_or_lt_of_le h1 with rfl|hlt
   ·exact hp
   ·exact ih h j hlt (by omega)
  ·rw[if_pos hp]at h;simp at h
theorem uI{p:Nat->Bool}{i:Nat}:∀{r:Nat},KT p i=some r->r<i/\p r=true/\∀j,r<j->j<i->p j=false:=by
 induction i with
 | zero=>intro r h;simp[KT]at h
 | succ i ih=>
  intro r h;unfold KT at h;cases hp:p i
  ·rw[if_neg (by simp[hp])]at h
   obtain⟨h1,h2,h3⟩:=ih h;refine⟨by omega,h2,fun j hj hji=>?_⟩;rcases Qp.1 hji with h|rfl
   ·exact h3 j hj h
   ·exact hp
  ·rw[if_pos hp]at h
   simp at h;subst h;exact⟨by omega,hp,fun j hj hji=>by omega⟩
theorem uL{p:Nat->Bool}{i:Nat}:KT p i=none->∀j,j<i->p j=false:=by
 induction i with
 | zero=>intro _ j h;omega
 | succ i ih=>
  intro h j hj;unfold KT at h;cases hp:p i
  ·rw[if_neg (by simp[hp])]at h
   rcases Qp.1 hj with h'|rfl
   ·exact ih h j h'
   ·exact hp
  ·rw[if_pos hp]at h;simp at h
def Yj(l:List Int)(big:Bool)(k:Int):Int:=
 match UA (fun i=>yS l big i) (k.toNat+1) (l.length-(k.toNat+1))with
 | some r=>(r:Int)
 | none=>(l.length:Int)
def Jy(l:List Int)(big:Bool)(k:Int):Int:=
 match KT (fun i=>decide (0<i)&&yS l big i) k.toNat with
 | some r=>(r:Int)
 | none=>0
def K8(l:List Int)(big:Bool)(k:Int):Int:=
 match UA (fun i=>TL l big i) (k.toNat+1) (l.length-(k.toNat+1))with
 | some r=>(r:Int)
 | none=>max 0 ((l.length:Int)-1)
theorem Ay(l:List Int)(big:Bool)(k:Int)(h0:0<=k)(hk:k<=l.length):ME l big k (Yj l big k):=by
 unfold Yj;split
 ·rename_i r h
  obtain⟨h1,h2,h3,h4⟩:=XI h;refine⟨.inl ⟨by omega,by omega,(Jz _ _ _).1 h3⟩,fun j hj hjr _ hb=>?_⟩;have:=h4 j.toNat (by omega) (by omega);exact QAf
 ·rename_i h
  refine⟨.inr rfl,fun j hj _ hjl hb=>?_⟩;have:=UZ h j.toNat (by omega) (by omega);exact QAf
theorem Ui(l:List Int)(big:Bool)(k:Int)(h0:0<=k):MF l big k (Jy l big k):=by
 unfold Jy;split
 ·rename_i r h
  obtain⟨h1,h2,h3⟩:=uI h;simp only[Bool.and_eq_true,Zq]at h2;refine⟨.inl ⟨by omega,by omega,(Jz _ _ _).1 h2.2⟩,fun j hj hjk hj0 hb=>?_⟩;have:=h3 j.toNat (by omega) (by omega);exact QAO
 ·rename_i h
  refine⟨.inr rfl,fun j hj hjk hj0 hb=>?_⟩;have:=uL h j.toNat (by omega);exact QAO
theorem ql(l:List Int)(big:Bool)(k:Int)(h0:0<=k):aK l big k (K8 l big k):=by
 unfold K8;split
 ·rename_i r h
  obtain⟨h1,h2,h3,h4⟩:=XI h;refine .inl ⟨by omega,by omega,(xY _ _ _).1 h3,fun j hj hjr hb=>?_⟩;have:=h4 j.toNat (by omega) (by omega);exact QAg
 ·rename_i h
  refine .inr ⟨rfl,fun j hj hjl hb=>?_⟩;have:=UZ h j.toNat (by omega) (by omega);exact QAg
theorem qM(l:List Int)(big:Bool)(k:Int)(h0:0<=k)(hk:k<=l.length):0<=Yj l big k/\Yj l big k<=l.length:=by
 rcases(Ay l big k h0 hk).1 with h|h<;>omega
theorem Fu(l:List Int)(big:Bool)(k:Int)(h0:0<=k)(hk:k<=l.length):0<=Jy l big k/\Jy l big k<=l.length:=by
 rcases(Ui l big k h0).1 with h|h<;>omega
theorem C8(l:List Int)(big:Bool)(k:Int)(h0:0<=k)(hk:k<=l.length):0<=K8 l big k/\K8 l big k<=l.length:=by
 rcases ql l big k h0 with h|h<;>omega
def Xk(f:Int->Int):Nat->Int->Int
 | 0,k=>k
 | n+1,k=>f (Xk f n k)
theorem Y4{f:Int->Int}{lo hi:Int}(hf:∀k,lo<=k->k<=hi->lo<=f k/\f k<=hi){k:Int}(h0:lo<=k)(h1:k<=hi):∀n,lo<=Xk f n k/\Xk f n k<=hi:=by
 intro n;induction n with
 | zero=>exact⟨h0,h1⟩
 | succ n ih=>exact hf _ ih.1 ih.2
def Yo(l:List Int):Int:=
 match UA (fun i=>decide (Za (ix l i) true≠0)) 0 l.length with
 | some r=>(r:Int)
 | none=>max 0 ((l.length:Int)-1)
def Lf(l:List Int)(c:Int)(i:Nat):Nat->List Int
 | 0=>[]
 | m+1=>if ix l i=c then(i:Int)::Lf l c (i+1) m else Lf l c (i+1) m
def Lg(l:List Int)(c:Int):Nat->List Int
 | 0=>[]
 | i+1=>if ix l i=c then(i:Int)::Lg l c i else Lg l c i
theorem dP{l:List Int}{c:Int}{i m:Nat}(h:ix l i=c):Lf l c i (m+1)=(i:Int)::Lf l c (i+1) m:=if_pos h
theorem Rf{l:List Int}{c:Int}{i m:Nat}(h:ix l i≠c):Lf l c i (m+1)=Lf l c (i+1) m:=if_neg h
theorem dR{l:List Int}{c:Int}{i:Nat}(h:ix l i=c):Lg l c (i+1)=(i:Int)::Lg l c i:=if_pos h
theorem Rh{l:List Int}{c:Int}{i:Nat}(h:ix l i≠c):Lg l c (i+1)=Lg l c i:=if_neg h
theorem jT(l:List Int)(c:Int)(m:Nat):∀i,∀x∈Lf l c i m,(i:Int)<=x/\x<i+m:=by
 induction m with
 | zero=>intro i x hx;simp[Lf]at hx
 | succ m ih=>
  intro i x hx;unfold Lf at hx;split at hx
  ·rcases QB.1 hx with rfl|hx
   ·omega
   ·have:=ih _ x hx;omega
  ·have:=ih _ x hx;omega
theorem Bf(l:List Int)(c:Int)(i:Nat):∀x∈Lg l c i,0<=x/\x<i:=by
 induction i with
 | zero=>intro x hx;simp[Lg]at hx
 | succ i ih=>
  intro x hx;unfold Lg at hx;split at hx
  ·rcases QB.1 hx with rfl|hx
   ·omega
   ·have:=ih x hx;omega
  ·have:=ih x hx;omega
def Xo(l:List Int)(k:Nat)(c:Int):List Int:=Lf l c (k+1) (l.length-(k+1))
def X6(l:List Int)(k:Nat)(c:Int):List Int:=Lg l c k
def JK(l:List Int)(k:Nat):Int:=
 match UA (fun i=>decide (Xl (ix l i)≠0)) k (l.length-k)with
 | some r=>ix (YO l l.length l.length).out r
 | none=> -1
def XG(l:List Int)(k:Nat)(key n arg:Int)(op:Bool):Option (Int×Bool):=
 if key=104 then(if k=0 then none else some (max 0 (k-n),false))
 else if key=108 then(if(if op then(l.length:Int)else l.length-1)<=k then none else some (min (if op then(l.length:Int)else l.length-1) (k+n),false))
 else if key=48 then some (0,false)
 else if key=94 then some (Yo l,false)
 else if key=98\/key=66 then(if k=0 then none else some (Xk (Jy l (key==66)) n.toNat k,false))
 else if key=102\/key=116 then(match(Xo l k arg)[n.toNat-1]? with|some at'=>some (if key=116 then at'-1 else at',true)|none=>none)
 else if key=70\/key=84 then(match(X6 l k arg)[n.toNat-1]? with|some at'=>some (if key=84 then at'+1 else at',false)|none=>none)
 else if l.length=0 then none
 else if key=36 then some (l.length-1,true)
 else if key=124 then some (min n l.length-1,false)
 else if key=119\/key=87 then
  (if op then some (Xk (Yj l (key==87)) n.toNat k,false)
   else if min (Xk (Yj l (key==87)) n.toNat k) (l.length-1)=k then none else some (min (Xk (Yj l (key==87)) n.toNat k) (l.length-1),false))
 else if key=101\/key=69 then
  (if op=false/\Xk (K8 l (key==69)) n.toNat k=k then none else some (Xk (K8 l (key==69)) n.toNat k,true))
 else if JK l k<0 then none else some (JK l k,true)
def Yn(key:Int):Bool:=[104,108,48,94,36,124,119,87,98,66,101,69,37,102,70,116,84].contains key
def YW(l:List Int)(k key count:Int):Int:=
 if 4096<l.length then 2 else if k<0\/(0<k/\(l.length:Int)<=k)\/count<0\/999<count then 1 else if Yn key then 0 else 9
def WI(key:Int):Bool:=[102,70,116,84].contains key
theorem Eg(key:Int):key=104\/key=108\/key=48\/key=94\/key=36\/key=124\/key=119\/key=87\/key=98\/key=66\/key=101\/key=69\/key=37\/key=102\/key=70\/key=116\/key=84\/Yn key=false:=by
 cases h:Yn key
 ·simp
 ·simp[Yn]at h
  omega
theorem Su{key:Int}(h:Yn key=false):(key==104)=false/\(key==108)=false/\(key==48)=false/\(key==94)=false/\(key==36)=false/\(key==124)=false/\(key==119)=false/\(key==87)=false/\(key==98)=false/\(key==66)=false/\(key==101)=false/\(key==69)=false/\(key==37)=false/\(key==102)=false/\(key==70)=false/\(key==116)=false/\(key==84)=false:=by
 simp[Yn]at h;simp;omega
theorem OW{key:Int}(h:Yn key=false):WI key=false:=by
 simp[Yn]at h;simp[WI];omega
theorem JG(key:Int)(w:World):
  Calls Tryz.prog 288 #[.int .i64 key] w fun e w'=>e=.returned (.tuple #[.bool (Yn key),.bool (WI key)])/\w=w':=by
 rcases Eg key with rfl|rfl|rfl|rfl|rfl|rfl|rfl|rfl|rfl|rfl|rfl|rfl|rfl|rfl|rfl|rfl|rfl|h
 case inr.inr.inr.inr.inr.inr.inr.inr.inr.inr.inr.inr.inr.inr.inr.inr.inr=>
  obtain⟨h1,h2,h3,h4,h5,h6,h7,h8,h9,h10,h11,h12,PZ,h14,h15,h16,h17⟩:=Su h;have HF:=QQ (OW h);have HK:=QQ h;clear h;go_enter Tryz.func288,Tryz.ntmps288
  go_wp2;go_ret2
  exact⟨by rw[HF.out,HK.out];rfl,rfl⟩
 all_goals
  go_enter Tryz.func288,Tryz.ntmps288
  go_wp2;go_ret2
  exact⟨rfl,rfl⟩
def G9(key count arg:Int):Value:=.agg #[.int .i64 key,.int .i64 count,.int .i64 arg]
theorem Gw(l:List Int)(k key count:Int):(4096<l.length/\YW l k key count=2)\/(l.length<=4096/\((k<0\/(0<=k/\max 0 ((l.length:Int)-1)<k))\/(0<=k/\k<=max 0 ((l.length:Int)-1)/\(count<0\/999<count)))/\YW l k key count=1)
  \/(l.length<=4096/\0<=k/\k<=max 0 ((l.length:Int)-1)/\0<=count/\count<=999/\YW l k key count=if Yn key then 0 else 9):=by
 unfold YW;by_cases h1:4096<l.length
 ·left;rw[if_pos h1];exact⟨h1,rfl⟩
 ·rw[if_neg h1]
  right
  by_cases h2:k<0\/(0<k/\(l.length:Int)<=k)\/count<0\/999<count
  ·left;rw[if_pos h2];exact⟨by omega,by omega,rfl⟩
  ·right;rw[if_neg h2];exact⟨by omega,by omega,by omega,by omega,by omega,rfl⟩
theorem KE(a:Option Addr)(n c:Nat)(l:List Int)(k key count arg:Int)(w:World)(hn:l.length=n)(hn2:n<=9223372036854775807)(hk:yT k):
  Calls Tryz.prog 287 #[.slice a n c,.int .i64 k,G9 key count arg] w fun e w'=>e=.returned (.int .i64 (YW l k key count))/\Below w.heap.size w w':=by
 unfold G9;obtain⟨hk1,hk2⟩:=hk;have hB:=QD.new w #[.int .i64 key,.int .i64 count,.int .i64 arg] 312;obtain⟨c0,c1,c2,-,-,-⟩:=hB.three;have hacc:=QC w (.cells #[.int .i64 key,.int .i64 count,.int .i64 arg] 312);rcases Gw l k key count with⟨h1,h2⟩|⟨h1,h2,h3⟩|⟨h1,h2,h3,h4,h5,h6⟩
 ·rw[h2]
  rw[hn]at h1;clear h2 hn;go_enter Tryz.func287,Tryz.ntmps287
  go_wp2;exact QAE
 ·rw[h3]
  rw[hn]at h1 h2;clear h3 hn;rcases h2 with(h|⟨h,h'⟩)|⟨h,h',h''|h''⟩
  all_goals
   go_enter Tryz.func287,Tryz.ntmps287
   go_wp2
   all_goals
    exact QAE
 ·rw[h6]
  rw[hn]at h1 h3;clear h6 hn;cases hK:Yn key
  ·have HK:=QQ hK;clear hK
   exact Qvu
  ·have HK:=QQ hK;clear hK
   exact Qvu
def Yf(a:Option Addr)(n c:Nat)(k:Nat)(m:Int)(op:Bool):Value:=.agg #[.slice a n c,.int .i64 (k:Int),.int .i64 m,.bool op]
theorem QD.four{w:World}{B:Nat}{u0 u1 u2 u3:Value}{e:TypeId}(h:QD w B #[u0,u1,u2,u3] e):w.cell? ⟨B,0,none⟩=some u0/\w.cell? ⟨B,1,none⟩=some u1/\w.cell? ⟨B,2,none⟩=some u2/\w.cell? ⟨B,3,none⟩=some u3:=⟨h.cell 0,h.cell 1,h.cell 2,h.cell 3⟩
def iE(v:Int)(w:World)(e:Ending)(w':World):Prop:=e=.returned (.int .i64 v)/\Below w.heap.size w w'
theorem Db(a:Option Addr)(n c:Nat)(l:List Int)(big:Bool)(k:Int)(w:World)(hl:Ints w a l)(hn:l.length=n)(hn2:n<=4096)(hk0:0<=k)(hk1:k<=n):
  Calls Tryz.prog 307 #[.slice a n c,.int .i64 k,.bool big] w fun e w'=>e=.returned (.tuple #[.int .i64 (Yj l big k),.int .i64 0])/\Below w.heap.size w w':=
 (Ao a n c l big k w hl hn hn2 hk0 hk1).mono fun e w' ⟨r,h1,h2,h3⟩=>by
  obtain rfl:=NG hk0 (by omega) h2 (Ay l big k hk0 (by omega));exact⟨h1,h3⟩
theorem De(a:Option Addr)(n c:Nat)(l:List Int)(big:Bool)(k:Int)(w:World)(hl:Ints w a l)(hn:l.length=n)(hn2:n<=4096)(hk0:0<=k)(hk1:k<=n):
  Calls Tryz.prog 199 #[.slice a n c,.int .i64 k,.bool big] w fun e w'=>e=.returned (.tuple #[.int .i64 (Jy l big k),.int .i64 0])/\Below w.heap.size w w':=
 (qx a n c l big k w hl hn hn2 hk0 hk1).mono fun e w' ⟨r,h1,h2,h3⟩=>by
  obtain rfl:=Ae hk0 (by omega) h2 (Ui l big k hk0);exact⟨h1,h3⟩
theorem Gq(a:Option Addr)(n c:Nat)(l:List Int)(big:Bool)(k:Int)(w:World)(hl:Ints w a l)(hn:l.length=n)(hn2:n<=4096)(hk0:0<=k)(hk1:k<=n):
  Calls Tryz.prog 308 #[.slice a n c,.int .i64 k,.bool big] w fun e w'=>e=.returned (.tuple #[.int .i64 (K8 l big k),.int .i64 0])/\Below w.heap.size w w':=
 (Dc a n c l big k w hl hn hn2 hk0 hk1).mono fun e w' ⟨r,h1,h2,h3⟩=>by
  obtain rfl:=TM hk0 (by omega) h2 (ql l big k hk0);exact⟨h1,h3⟩
theorem YI(a:Option Addr)(n c:Nat)(l:List Int)(k:Nat)(m:Nat)(op big:Bool)(w:World)(hl:Ints w a l)(hn:l.length=n)(hn2:n<=4096)(hk:k<=n)(hm:m<=1000):
  Calls Tryz.prog 300 #[Yf a n c k (m:Int) op,.func (.func 307) #[] #[],.bool big] w (iE (Xk (Yj l big) m k) w):=by
 unfold Yf;have HB:=QQ (fun j=>Y4 (f:=Yj l big) (lo:=0) (hi:=(n:Int)) (fun x h0 h1=>by rw[<-hn];exact qM l big x h0 (by omega)) (k:=(k:Int)) (by omega) (by omega) j);have HN:=QQ hn;clear hn;have hB:=QD.new w #[.slice a n c,.int .i64 (k:Int),.int .i64 (m:Int),.bool op] 359;obtain⟨c0,c1,c2,c3⟩:=hB.four;have hacc:=QC w (.cells #[.slice a n c,.int .i64 (k:Int),.int .i64 (m:Int),.bool op] 359);have hsz:w.heap.size<(w.alloc (.cells #[.slice a n c,.int .i64 (k:Int),.int .i64 (m:Int),.bool op] 359)).heap.size:=by simp
 go_enter Tryz.func300,Tryz.ntmps300
 go_upto_region 1 with fail
 change Code.wp _ _ _ _ (w.alloc (.cells #[.slice a n c,.int .i64 (k:Int),.int .i64 (m:Int),.bool op] 359));generalize(w.alloc (.cells #[.slice a n c,.int .i64 (k:Int),.int .i64 (m:Int),.bool op] 359))=w1 at *;go_wp2
 go_loopw [7,12] (fun v i wr=>∃j:Nat,i=.int .i64 (j:Int)/\j<=m/\v=.int .i64 (Xk (Yj l big) j (k:Int))/\QD wr w.heap.size #[.slice a n c,.int .i64 (k:Int),.int .i64 (m:Int),.bool op] 359/\Below w.heap.size w wr) (fun _ i _=>m-(intOf i).toNat)
 case atStart=>exact⟨0,rfl,by omega,rfl,hB,hacc⟩
 case round=>
  obtain⟨j,rfl,hj,rfl,hB2,hbel⟩:=hrel;obtain⟨d0,d1,d2,d3⟩:=hB2.four;obtain⟨g0,g1⟩:=HB.out j;by_cases hlt:j<m
  ·clear c0 c1 c2 c3
   go_wp2_with fail
   refine(Db a n c l big _ _ (hl.below hbel) HN.out hn2 g0 g1).mono ?_;exact QuB
  ·obtain rfl:j=m:=by omega
   exact QAW
theorem Vj(a:Option Addr)(n c:Nat)(l:List Int)(k:Nat)(m:Nat)(op big:Bool)(w:World)(hl:Ints w a l)(hn:l.length=n)(hn2:n<=4096)(hk:k<=n)(hm:m<=1000):
  Calls Tryz.prog 300 #[Yf a n c k (m:Int) op,.func (.func 199) #[] #[],.bool big] w (iE (Xk (Jy l big) m k) w):=by
 unfold Yf;have HB:=QQ (fun j=>Y4 (f:=Jy l big) (lo:=0) (hi:=(n:Int)) (fun x h0 h1=>by rw[<-hn];exact Fu l big x h0 (by omega)) (k:=(k:Int)) (by omega) (by omega) j);have HN:=QQ hn;clear hn;have hB:=QD.new w #[.slice a n c,.int .i64 (k:Int),.int .i64 (m:Int),.bool op] 359;obtain⟨c0,c1,c2,c3⟩:=hB.four;have hacc:=QC w (.cells #[.slice a n c,.int .i64 (k:Int),.int .i64 (m:Int),.bool op] 359);have hsz:w.heap.size<(w.alloc (.cells #[.slice a n c,.int .i64 (k:Int),.int .i64 (m:Int),.bool op] 359)).heap.size:=by simp
 go_enter Tryz.func300,Tryz.ntmps300
 go_upto_region 1 with fail
 change Code.wp _ _ _ _ (w.alloc (.cells #[.slice a n c,.int .i64 (k:Int),.int .i64 (m:Int),.bool op] 359));generalize(w.alloc (.cells #[.slice a n c,.int .i64 (k:Int),.int .i64 (m:Int),.bool op] 359))=w1 at *;go_wp2
 go_loopw [7,12] (fun v i wr=>∃j:Nat,i=.int .i64 (j:Int)/\j<=m/\v=.int .i64 (Xk (Jy l big) j (k:Int))/\QD wr w.heap.size #[.slice a n c,.int .i64 (k:Int),.int .i64 (m:Int),.bool op] 359/\Below w.heap.size w wr) (fun _ i _=>m-(intOf i).toNat)
 case atStart=>exact⟨0,rfl,by omega,rfl,hB,hacc⟩
 case round=>
  obtain⟨j,rfl,hj,rfl,hB2,hbel⟩:=hrel;obtain⟨d0,d1,d2,d3⟩:=hB2.four;obtain⟨g0,g1⟩:=HB.out j;by_cases hlt:j<m
  ·clear c0 c1 c2 c3
   go_wp2_with fail
   refine(De a n c l big _ _ (hl.below hbel) HN.out hn2 g0 g1).mono ?_;exact QuB
  ·obtain rfl:j=m:=by omega
   exact QAW
theorem Kl(a:Option Addr)(n c:Nat)(l:List Int)(k:Nat)(m:Nat)(op big:Bool)(w:World)(hl:Ints w a l)(hn:l.length=n)(hn2:n<=4096)(hk:k<=n)(hm:m<=1000):
  Calls Tryz.prog 300 #[Yf a n c k (m:Int) op,.func (.func 308) #[] #[],.bool big] w (iE (Xk (K8 l big) m k) w):=by
 unfold Yf;have HB:=QQ (fun j=>Y4 (f:=K8 l big) (lo:=0) (hi:=(n:Int)) (fun x h0 h1=>by rw[<-hn];exact C8 l big x h0 (by omega)) (k:=(k:Int)) (by omega) (by omega) j);have HN:=QQ hn;clear hn;have hB:=QD.new w #[.slice a n c,.int .i64 (k:Int),.int .i64 (m:Int),.bool op] 359;obtain⟨c0,c1,c2,c3⟩:=hB.four;have hacc:=QC w (.cells #[.slice a n c,.int .i64 (k:Int),.int .i64 (m:Int),.bool op] 359);have hsz:w.heap.size<(w.alloc (.cells #[.slice a n c,.int .i64 (k:Int),.int .i64 (m:Int),.bool op] 359)).heap.size:=by simp
 go_enter Tryz.func300,Tryz.ntmps300
 go_upto_region 1 with fail
 change Code.wp _ _ _ _ (w.alloc (.cells #[.slice a n c,.int .i64 (k:Int),.int .i64 (m:Int),.bool op] 359));generalize(w.alloc (.cells #[.slice a n c,.int .i64 (k:Int),.int .i64 (m:Int),.bool op] 359))=w1 at *;go_wp2
 go_loopw [7,12] (fun v i wr=>∃j:Nat,i=.int .i64 (j:Int)/\j<=m/\v=.int .i64 (Xk (K8 l big) j (k:Int))/\QD wr w.heap.size #[.slice a n c,.int .i64 (k:Int),.int .i64 (m:Int),.bool op] 359/\Below w.heap.size w wr) (fun _ i _=>m-(intOf i).toNat)
 case atStart=>exact⟨0,rfl,by omega,rfl,hB,hacc⟩
 case round=>
  obtain⟨j,rfl,hj,rfl,hB2,hbel⟩:=hrel;obtain⟨d0,d1,d2,d3⟩:=hB2.four;obtain⟨g0,g1⟩:=HB.out j;by_cases hlt:j<m
  ·clear c0 c1 c2 c3
   go_wp2_with fail
   refine(Gq a n c l big _ _ (hl.below hbel) HN.out hn2 g0 g1).mono ?_;exact QuB
  ·obtain rfl:j=m:=by omega
   exact QAW
end Go.Proofs.YtmdcencmiopmmaaGreat
