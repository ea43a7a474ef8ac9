/- joined, no condition of its own. -/
import Derived.Test.YtmdnepkekekncaaGreatJfJ3
set_option linter.unusedVariables false
set_option linter.unusedSimpArgs false
set_option maxRecDepth 100000
set_option maxHeartbeats 12000000
namespace Go.Proofs.YtmdnepkekekncaaGreat
theorem UB{l:List Int}{i j:Nat}{x:Int}(h:i≠j):ix (l.set i x) j=ix l j:=by
 simp[ix,List.getElem?_set,h]
theorem Bj{l:List Int}{i:Nat}{x:Int}(h:i<l.length):ix (l.set i x) i=x:=by
 simp[ix,List.getElem?_set,h]
theorem Rv{xs:List Int}{x:Int}:ix (xs++[x]) xs.length=x:=by simp[ix]
theorem Lb{xs:List Int}{q:Nat}(h:q<xs.length-1):ix xs.dropLast q=ix xs q:=by
 simp only[ix,Zg,List.getElem?_dropLast,if_pos h]
def Xp(o s:Int):Prop:=(o=40/\s=41)\/(o=91/\s=93)\/(o=123/\s=125)
theorem kindOf(c:Int):(Xj c=0/\∀o s,Xp o s->c≠o/\c≠s)\/(Xp c (Xj c)/\Xj c≠0/\qE c=false)\/(Xp (Xj c) c/\Xj c≠0/\qE c=true):=by
 rcases zT c with rfl|rfl|rfl|rfl|rfl|rfl|⟨h1,h2,h3,h4,h5,h6⟩
 case inr.inr.inr.inr.inr.inr=>
  refine .inl ⟨by simp[Xj,h1,h2,h3,h4,h5,h6],fun o s h=>?_⟩;unfold Xp at h;omega
 all_goals simp[Xj,qE,Xp]
structure qA (l:List Int) (o s:Int) (i:Nat) (st:List Int):Prop where
 place:∀q,q<st.length->∃p:Nat,ix st q=(p:Int)/\p<i/\ix l p=o/\(∀b,p<b->b<=i->YT l o s p+1<=YT l o s b)/\YT l o s i=YT l o s p+(st.length-q:Int)
 base:∀a,a<=i->YT l o s i-YT l o s a<=(st.length:Int)
theorem qA.zero(l:List Int)(o s:Int):qA l o s 0 []:=by
 refine⟨fun q hq=>by simp at hq,fun a ha=>?_⟩;obtain rfl:a=0:=QQ;simp
theorem qA.skip{l:List Int}{o s:Int}{i:Nat}{st:List Int}(h:qA l o s i st)(h1:ix l i≠o)(h2:ix l i≠s):qA l o s (i+1) st:=by
 have hs:YT l o s (i+1)=YT l o s i:=by simp[YT,dOS,h1,h2]
 refine⟨fun q hq=>?_,fun a ha=>?_⟩
 ·obtain⟨p,e1,e2,e3,e4,e5⟩:=h.place q hq
  refine⟨p,e1,QQ,e3,fun b hb hb'=>?_,QQ⟩;by_cases e:b=i+1
  ·subst e;rw[hs];exact e4 i e2 (ZB _)
  ·exact e4 b hb QQ
 ·by_cases e:a=i+1
  ·subst e;omega
  ·have:=h.base a QQ;omega
theorem qA.push{l:List Int}{o s:Int}{i:Nat}{st:List Int}(h:qA l o s i st)(h1:ix l i=o)(hos:o≠s):qA l o s (i+1) (st++[(i:Int)]):=by
 have hs:YT l o s (i+1)=YT l o s i+1:=by simp[YT,dOS,h1,hos]
 refine⟨fun q hq=>?_,fun a ha=>?_⟩
 ·have hq:q<st.length+1:=by simpa using hq
  by_cases e:q=st.length
  ·subst e
   refine⟨i,Rv,QQ,h1,fun b hb hb'=>?_,QY⟩;obtain rfl:b=i+1:=QQ;omega
  ·obtain⟨p,e1,e2,e3,e4,e5⟩:=h.place q QQ
   refine⟨p,by rw[YE QQ,e1],QQ,e3,fun b hb hb'=>?_,QY⟩;by_cases e:b=i+1
   ·subst e;rw[hs];have:=e4 i e2 (ZB _);omega
   ·exact e4 b hb QQ
 ·simp only[ZN,List.length_singleton]
  by_cases e:a=i+1
  ·subst e;omega
  ·have:=h.base a QQ;omega
theorem qA.none{l:List Int}{o s:Int}{i:Nat}(h:qA l o s i [])(h1:ix l i=s)(hos:o≠s):qA l o s (i+1) []/\∀a,a<=i->YT l o s (i+1)+1<=YT l o s a:=by
 have hs:YT l o s (i+1)=YT l o s i-1:=by simp[YT,dOS,h1,Ne.symm hos];omega
 refine⟨⟨fun q hq=>by simp at hq,fun a ha=>?_⟩,fun a ha=>?_⟩
 ·by_cases e:a=i+1
  ·subst e;simp
  ·have:=h.base a QQ;simp at this ⊢;omega
 ·have:=h.base a ha;simp at this;omega
theorem qA.pop{l:List Int}{o s:Int}{i:Nat}{st:List Int}(h:qA l o s i st)(h1:ix l i=s)(hos:o≠s)(hne:0<st.length):
  qA l o s (i+1) st.dropLast/\∃p:Nat,ix st (st.length-1)=(p:Int)/\Match l o s p i:=by
 have hs:YT l o s (i+1)=YT l o s i-1:=by simp[YT,dOS,h1,Ne.symm hos];omega
 refine⟨⟨fun q hq=>?_,fun a ha=>?_⟩,?_⟩
 ·have hq:q<st.length-1:=by simpa using hq
  obtain⟨p,e1,e2,e3,e4,e5⟩:=h.place q QQ;have e6:YT l o s (i+1)=YT l o s p+((st.dropLast.length:Int)-q):=QY;refine⟨p,by rw[Lb hq,e1],QQ,e3,fun b hb hb'=>?_,e6⟩;by_cases e:b=i+1
  ·subst e;simp at e6;omega
  ·exact e4 b hb QQ
 ·simp only[List.length_dropLast]
  by_cases e:a=i+1
  ·subst e;omega
  ·have:=h.base a QQ;omega
 ·obtain⟨p,e1,e2,e3,e4,e5⟩:=h.place (st.length-1) QQ
  exact⟨p,e1,e2,e3,h1,e4,QQ⟩
structure Pz (l:List Int) (i:Nat) (S:PSt):Prop where
 others:∀x,x<i->Xj (ix l x)=0->ix S.out x= -1
 jy:∀o s,Xp o s->∀x,x<i->ix l x=s->(∃p:Nat,Match l o s p x/\ix S.out x=(p:Int))\/(ix S.out x= -1/\∀a,a<=x->YT l o s (x+1)+1<=YT l o s a)
 yR:∀o s,Xp o s->∀x,x<i->ix l x=o->(∃j,j<i/\Match l o s x j/\ix S.out x=(j:Int))\/(ix S.out x= -1/\∃q,q<(S.Jo o).length/\ix (S.Jo o) q=(x:Int))
 FZ:∀o s,Xp o s->qA l o s i (S.Jo o)
theorem Xp.ne{o s:Int}(h:Xp o s):o≠s:=by unfold Xp at h;omega
theorem Xp.same{o s s':Int}(h:Xp o s)(h':Xp o s'):s=s':=QEx
theorem Xp.P5{o o' s:Int}(h:Xp o s)(h':Xp o' s):o=o':=QEx
theorem Xp.cross{o s o':Int}(h:Xp o s)(h':Xp s o'):False:=QEx
theorem Xp.apart{o s o' s':Int}(h:Xp o s)(h':Xp o' s'):o≠s':=QEx
theorem Xp.other{o s:Int}(h:Xp o s):Xj o=s/\Xj s=o/\qE o=false/\qE s=true/\s≠0/\o≠0:=by
 rcases h with⟨rfl,rfl⟩|⟨rfl,rfl⟩|⟨rfl,rfl⟩<;>simp[Xj,qE]
theorem Pz.step{l:List Int}{i n:Nat}{S:PSt}(h:Pz l i S)(hn:S.out.length=n)(hi:i<n):Pz l (i+1) (Ub (ix l i) i S):=by
 rcases kindOf (ix l i)with⟨k0,k1⟩|⟨k0,k1,k2⟩|⟨k0,k1,k2⟩
 ·
  have e:Ub (ix l i) i S=⟨S.out.set i (-1),S.Jo⟩:=by simp[Ub,k0]
  rw[e];refine⟨fun x hx hx2=>?_,fun o s hk x hx hx2=>?_,fun o s hk x hx hx2=>?_,fun o s hk=>?_⟩
  ·by_cases e:x=i
   ·subst e;exact Bj QQ
   ·show ix (S.out.set i (-1)) x=_;rw[UB QQ];exact h.others x QQ hx2
  ·by_cases e:x=i
   ·subst e;exact absurd hx2 (k1 o s hk).2
   ·show(∃p:Nat,_/\ix (S.out.set i (-1)) x=_)\/(ix (S.out.set i (-1)) x=_/\_);rw[UB QQ];exact h.jy o s hk x QQ hx2
  ·by_cases e:x=i
   ·subst e;exact absurd hx2 (k1 o s hk).1
   ·show(∃p:Nat,_/\_/\ix (S.out.set i (-1)) x=_)\/(ix (S.out.set i (-1)) x=_/\_);rw[UB QQ]
    exact QIg
  ·exact(h.FZ o s hk).skip (k1 o s hk).1 (k1 o s hk).2
 ·
  have e:Ub (ix l i) i S=⟨S.out.set i (-1),fun y=>if y=ix l i then S.Jo (ix l i)++[(i:Int)]else S.Jo y⟩:=by simp[Ub,k1,k2]
  rw[e];refine⟨fun x hx hx2=>?_,fun o s hk x hx hx2=>?_,fun o s hk x hx hx2=>?_,fun o s hk=>?_⟩
  ·by_cases e:x=i
   ·subst e;exact absurd hx2 k1
   ·show ix (S.out.set i (-1)) x=_;rw[UB QQ];exact h.others x QQ hx2
  ·by_cases e:x=i
   ·subst e;rw[hx2]at k0;exact(hk.cross k0).elim
   ·show(∃p:Nat,_/\ix (S.out.set i (-1)) x=_)\/(ix (S.out.set i (-1)) x=_/\_);rw[UB QQ];exact h.jy o s hk x QQ hx2
  ·by_cases e:x=i
   ·subst e
    refine .inr ⟨Bj QQ,?_⟩
    show∃q,q<(if o=ix l x then S.Jo (ix l x)++[(x:Int)]else S.Jo o).length/\ix (if o=ix l x then S.Jo (ix l x)++[(x:Int)]else S.Jo o) q=_
    rw[if_pos hx2.symm];exact⟨(S.Jo (ix l x)).length,QJ,Rv⟩
   ·show(∃p:Nat,_/\_/\ix (S.out.set i (-1)) x=_)\/(ix (S.out.set i (-1)) x=_/\∃q,q<(if o=ix l i then S.Jo (ix l i)++[(i:Int)]else S.Jo o).length/\ix (if o=ix l i then S.Jo (ix l i)++[(i:Int)]else S.Jo o) q=_);rw[UB QQ]
    rcases h.yR o s hk x QQ hx2 with⟨j,h1,h2,h3⟩|⟨h1,q,h2,h3⟩
    ·exact .inl ⟨j,QQ,h2,h3⟩
    ·refine .inr ⟨h1,q,?_,?_⟩
     ·split
      ·rename_i e2;rw[<-e2];simp;omega
      ·exact h2
     ·split
      ·rename_i e2;rw[<-e2,YE h2];exact h3
      ·exact h3
  ·show qA l o s (i+1) (if o=ix l i then S.Jo (ix l i)++[(i:Int)]else S.Jo o)
   split
   ·rename_i e2;rw[<-e2];exact(h.FZ o s hk).push e2.symm hk.ne
   ·rename_i e2;exact(h.FZ o s hk).skip (fun e=>e2 e.symm) (fun e=>k0.apart hk e)
 ·by_cases hS:S.Jo (Xj (ix l i))=[]
  ·
   have e:Ub (ix l i) i S=⟨S.out.set i (-1),S.Jo⟩:=by simp[Ub,k1,k2,hS]
   rw[e];have hst:=h.FZ _ _ k0;rw[hS]at hst;obtain⟨QYc,QU2⟩:=hst.none rfl k0.ne;refine⟨fun x hx hx2=>?_,fun o s hk x hx hx2=>?_,fun o s hk x hx hx2=>?_,fun o s hk=>?_⟩
   ·by_cases e:x=i
    ·subst e;exact absurd hx2 k1
    ·show ix (S.out.set i (-1)) x=_;rw[UB QQ];exact h.others x QQ hx2
   ·by_cases e:x=i
    ·subst e;rw[hx2]at k0 QU2;obtain rfl:=hk.P5 k0
     exact .inr ⟨Bj QQ,QU2⟩
    ·show(∃p:Nat,_/\ix (S.out.set i (-1)) x=_)\/(ix (S.out.set i (-1)) x=_/\_);rw[UB QQ];exact h.jy o s hk x QQ hx2
   ·by_cases e:x=i
    ·subst e;exact absurd hx2.symm (hk.apart k0)
    ·show(∃p:Nat,_/\_/\ix (S.out.set i (-1)) x=_)\/(ix (S.out.set i (-1)) x=_/\_);rw[UB QQ]
     exact QIg
   ·by_cases e2:s=ix l i
    ·subst e2;obtain rfl:=hk.P5 k0
     show qA l _ _ (i+1) (S.Jo _);rw[hS];exact QYc
    ·exact(h.FZ o s hk).skip (fun e=>hk.apart k0 e.symm) (fun e=>e2 e.symm)
  ·
   have hne:0<(S.Jo (Xj (ix l i))).length:=by rcases hh:S.Jo (Xj (ix l i))with _|⟨a,b⟩;exact absurd hh hS;simp
   obtain⟨QYc,p,hp,hm⟩:=(h.FZ _ _ k0).pop rfl k0.ne hne;have hlt:=hm.lt;have e:Ub (ix l i) i S=⟨((S.out.set i (-1)).set i (p:Int)).set p (i:Int),fun y=>if y=Xj (ix l i)then(S.Jo (Xj (ix l i))).dropLast else S.Jo y⟩:=by
    simp only[Ub,k1,k2,hS,X3,hp];rfl
   rw[e];have hout:∀x,x<i->x≠p->ix (((S.out.set i (-1)).set i (p:Int)).set p (i:Int)) x=ix S.out x:=fun x hx hxp=>by rw[UB QQ,UB QQ,UB QQ]
   have QVY:ix (((S.out.set i (-1)).set i (p:Int)).set p (i:Int)) i=p:=by rw[UB QQ,Bj QY]
   have QVX:ix (((S.out.set i (-1)).set i (p:Int)).set p (i:Int)) p=i:=by rw[Bj QY]
   refine⟨fun x hx hx2=>?_,fun o s hk x hx hx2=>?_,fun o s hk x hx hx2=>?_,fun o s hk=>?_⟩
   ·by_cases e:x=i
    ·subst e;exact absurd hx2 k1
    ·have hxp:x≠p:=fun e=>by subst e;rw[hm.opener]at hx2;exact k0.other.2.2.2.2.1 (by rw[<-k0.other.1];exact hx2)
     show ix _ x=_;rw[hout x QQ hxp];exact h.others x QQ hx2
   ·by_cases e:x=i
    ·subst e;subst hx2;obtain rfl:=hk.P5 k0
     exact .inl ⟨p,hm,QVY⟩
    ·have hxp:x≠p:=fun e=>by subst e;exact k0.apart hk (hm.opener.symm.trans hx2)
     show(∃p':Nat,_/\ix (((S.out.set i (-1)).set i (p:Int)).set p (i:Int)) x=_)\/(ix (((S.out.set i (-1)).set i (p:Int)).set p (i:Int)) x=_/\_)
     rw[hout x QQ hxp];exact h.jy o s hk x QQ hx2
   ·by_cases e:x=i
    ·subst e;exact absurd hx2.symm (hk.apart k0)
    ·by_cases hxp:x=p
     ·subst hxp
      have:o=Xj (ix l i):=hx2.symm.trans hm.opener;subst this;obtain rfl:=hk.same k0;exact .inl ⟨i,QQ,hm,QVX⟩
     ·show(∃j,_/\_/\ix (((S.out.set i (-1)).set i (p:Int)).set p (i:Int)) x=_)\/(ix (((S.out.set i (-1)).set i (p:Int)).set p (i:Int)) x=_/\∃q,q<(if o=Xj (ix l i)then(S.Jo (Xj (ix l i))).dropLast else S.Jo o).length/\ix (if o=Xj (ix l i)then(S.Jo (Xj (ix l i))).dropLast else S.Jo o) q=_)
      rw[hout x QQ hxp];rcases h.yR o s hk x QQ hx2 with⟨j,h1,h2,h3⟩|⟨h1,q,h2,h3⟩
      ·exact .inl ⟨j,QQ,h2,h3⟩
      ·refine .inr ⟨h1,q,?_⟩
       split
       ·rename_i e2
        subst e2;have:q≠(S.Jo (Xj (ix l i))).length-1:=fun e=>hxp (by rw[<-e,h3]at hp;exact_mod_cast hp)
        exact⟨QY,by rw[Lb QQ];exact h3⟩
       ·exact⟨h2,h3⟩
   ·show qA l o s (i+1) (if o=Xj (ix l i)then(S.Jo (Xj (ix l i))).dropLast else S.Jo o)
    split
    ·rename_i e2;subst e2;obtain rfl:=hk.same k0;exact QYc
    ·rename_i e2
     exact(h.FZ o s hk).skip (fun e=>hk.apart k0 e.symm) (fun e=>e2 (by subst e;exact hk.P5 k0))
theorem Pz.run(l:List Int)(n i:Nat)(hi:i<=n):Pz l i (Jr l n i):=by
 induction i with
 | zero=>exact⟨fun x hx=>QQ,fun o s hk x hx=>QQ,fun o s hk x hx=>QQ,fun o s hk=>qA.zero l o s⟩
 | succ i ih=>exact(ih QQ).step (n:=n) (zY l n i) QQ
def Jn(l:List Int)(n k:Nat)(r:Int):Prop:=
 if JZ (ix l k)=0 then r= -1
 else if ix l k=qy (ix l k)then EO l (qy (ix l k)) (JZ (ix l k)) (fun t=>k-t) (k+1) r
 else EO l (JZ (ix l k)) (qy (ix l k)) (fun t=>k+t) (n-k) r
theorem KG(l:List Int)(n k:Nat)(hk:k<n):Jn l n k (ix (Jr l n n).out k):=by
 have h:=Pz.run l n n (ZB _);have hop:∀o s,Xp o s->JZ o=o/\qy o=s/\JZ s=o/\qy s=s:=by
  rintro o s (⟨rfl,rfl⟩|⟨rfl,rfl⟩|⟨rfl,rfl⟩)<;>simp[JZ,qy]
 unfold Jn;rcases kindOf (ix l k)with⟨k0,k1⟩|⟨k0,k1,k2⟩|⟨k0,k1,k2⟩
 ·have h40:=k1 40 41 (.inl ⟨rfl,rfl⟩)
  have h91:=k1 91 93 (.inr (.inl ⟨rfl,rfl⟩));have Qxm:=k1 123 125 (.inr (.inr ⟨rfl,rfl⟩));rw[if_pos (by simp[JZ,h40,h91,Qxm])];exact h.others k hk k0
 ·have hh:=k0.other
  have ho:=hop _ _ k0;rw[ho.1,ho.2.1,if_neg hh.2.2.2.2.2,if_neg k0.ne];rcases h.yR _ _ k0 k hk rfl with⟨j,h1,h2,h3⟩|⟨h1,q,h2,h3⟩
  ·rw[h3];exact h2.up h1
  ·rw[h1]
   obtain⟨p,e1,e2,e3,e4,e5⟩:=(h.FZ _ _ k0).place q h2;obtain rfl:p=k:=by rw[h3]at e1;exact_mod_cast e1.symm
   exact tY e4 hk
 ·have hh:=k0.other
  have ho:=hop _ _ k0;rw[ho.2.2.1,ho.2.2.2,if_neg hh.2.2.2.2.2,if_pos rfl];rcases h.jy _ _ k0 k hk rfl with⟨p,h1,h2⟩|⟨h1,h2⟩
  ·rw[h2];exact h1.down
  ·rw[h1];exact TL h2
end Go.Proofs.YtmdnepkekekncaaGreat
namespace Go.Proofs.YtmdnepkekekncaaGreat
open Go.RowKit
def WY(p:Nat->Bool)(i:Nat):Nat->Option Nat
 | 0=>none
 | m+1=>if p i then some i else WY p (i+1) m
def VD(p:Nat->Bool):Nat->Option Nat
 | 0=>none
 | i+1=>if p i then some i else VD p i
theorem Yo{p:Nat->Bool}{m:Nat}:∀{i r:Nat},WY p i m=some r->i<=r/\r<i+m/\p r=true/\∀j,i<=j->j<r->p j=false:=by
 induction m with
 | zero=>intro i r h;simp[WY]at h
 | succ m ih=>
  intro i r h;unfold WY at h;cases hp:p i
  ·rw[if_neg (by simp[hp])]at h
   obtain⟨h1,h2,h3,h4⟩:=ih h;refine⟨QQ,QQ,h3,fun j hj hjr=>?_⟩;rcases Nat.eq_or_lt_of_le hj with rfl|hlt
   ·exact hp
   ·exact h4 j hlt hjr
  ·rw[if_pos hp]at h
   simp at h;subst h;exact⟨ZB _,QQ,hp,fun j hj hjr=>QQ⟩
theorem Vn{p:Nat->Bool}{m:Nat}:∀{i:Nat},WY p i m=none->∀j,i<=j->j<i+m->p j=false:=by
 induction m with
 | zero=>intro i _ j h1 h2;omega
 | succ m ih=>
  intro i h j h1 h2;unfold WY at h;cases hp:p i
  ·rw[if_neg (by simp[hp])]at h
   rcases Nat.eq_or_lt_of_le h1 with rfl|hlt
   ·exact hp
   ·exact ih h j hlt QQ
  ·rw[if_pos hp]at h;simp at h
theorem Ce{p:Nat->Bool}{i:Nat}:∀{r:Nat},VD p i=some r->r<i/\p r=true/\∀j,r<j->j<i->p j=false:=by
 induction i with
 | zero=>intro r h;simp[VD]at h
 | succ i ih=>
  intro r h;unfold VD at h;cases hp:p i
  ·rw[if_neg (by simp[hp])]at h
   obtain⟨h1,h2,h3⟩:=ih h;refine⟨QQ,h2,fun j hj hji=>?_⟩;rcases XZ.1 hji with h|rfl
   ·exact h3 j hj h
   ·exact hp
  ·rw[if_pos hp]at h
   simp at h;subst h;exact⟨QQ,hp,fun j hj hji=>QQ⟩
theorem Cf{p:Nat->Bool}{i:Nat}:VD p i=none->∀j,j<i->p j=false:=by
 induction i with
 | zero=>intro _ j h;omega
 | succ i ih=>
  intro h j hj;unfold VD at h;cases hp:p i
  ·rw[if_neg (by simp[hp])]at h
   rcases XZ.1 hj with h'|rfl
   ·exact ih h j h'
   ·exact hp
  ·rw[if_pos hp]at h;simp at h
def JO(l:List Int)(big:Bool)(k:Int):Int:=
 match WY (fun i=>vH l big i) (k.toNat+1) (l.length-(k.toNat+1))with
 | some r=>(r:Int)
 | none=>(l.length:Int)
def Kl(l:List Int)(big:Bool)(k:Int):Int:=
 match VD (fun i=>decide (0<i)&&vH l big i) k.toNat with
 | some r=>(r:Int)
 | none=>0
def Vi(l:List Int)(big:Bool)(k:Int):Int:=
 match WY (fun i=>mQ l big i) (k.toNat+1) (l.length-(k.toNat+1))with
 | some r=>(r:Int)
 | none=>max 0 ((l.length:Int)-1)
theorem EU(l:List Int)(big:Bool)(k:Int)(h0:0<=k)(hk:k<=l.length):Rn l big k (JO l big k):=by
 unfold JO;split
 ·rename_i r h
  obtain⟨h1,h2,h3,h4⟩:=Yo h;refine⟨.inl ⟨QQ,QQ,(Ki _ _ _).1 h3⟩,fun j hj hjr _ hb=>?_⟩;have:=h4 j.toNat QQ QQ;rw[show((j.toNat:Nat):Int)=j from QQ,(Ki _ _ _).2 hb]at this;simp at this
 ·rename_i h
  refine⟨.inr rfl,fun j hj _ hjl hb=>?_⟩;have:=Vn h j.toNat QQ QQ;rw[show((j.toNat:Nat):Int)=j from QQ,(Ki _ _ _).2 hb]at this;simp at this
theorem WT(l:List Int)(big:Bool)(k:Int)(h0:0<=k):Ro l big k (Kl l big k):=by
 unfold Kl;split
 ·rename_i r h
  obtain⟨h1,h2,h3⟩:=Ce h;simp only[Bool.and_eq_true,Xe]at h2;refine⟨.inl ⟨QQ,QQ,(Ki _ _ _).1 h2.2⟩,fun j hj hjk hj0 hb=>?_⟩;have:=h3 j.toNat QQ QQ;exact QLD
 ·rename_i h
  refine⟨.inr rfl,fun j hj hjk hj0 hb=>?_⟩;have:=Cf h j.toNat QQ;exact QLD
theorem jW(l:List Int)(big:Bool)(k:Int)(h0:0<=k):nV l big k (Vi l big k):=by
 unfold Vi;split
 ·rename_i r h
  obtain⟨h1,h2,h3,h4⟩:=Yo h;refine .inl ⟨QQ,QQ,(kF _ _ _).1 h3,fun j hj hjr hb=>?_⟩;have:=h4 j.toNat QQ QQ;rw[show((j.toNat:Nat):Int)=j from QQ,(kF _ _ _).2 hb]at this;simp at this
 ·rename_i h
  refine .inr ⟨rfl,fun j hj hjl hb=>?_⟩;have:=Vn h j.toNat QQ QQ;rw[show((j.toNat:Nat):Int)=j from QQ,(kF _ _ _).2 hb]at this;simp at this
theorem yf(l:List Int)(big:Bool)(k:Int)(h0:0<=k)(hk:k<=l.length):0<=JO l big k/\JO l big k<=l.length:=by
 rcases(EU l big k h0 hk).1 with h|h<;>omega
theorem MC(l:List Int)(big:Bool)(k:Int)(h0:0<=k)(hk:k<=l.length):0<=Kl l big k/\Kl l big k<=l.length:=by
 rcases(WT l big k h0).1 with h|h<;>omega
theorem Gh(l:List Int)(big:Bool)(k:Int)(h0:0<=k)(hk:k<=l.length):0<=Vi l big k/\Vi l big k<=l.length:=by
 rcases jW l big k h0 with h|h<;>omega
def Yb(f:Int->Int):Nat->Int->Int
 | 0,k=>k
 | n+1,k=>f (Yb f n k)
theorem KH{f:Int->Int}{lo hi:Int}(hf:∀k,lo<=k->k<=hi->lo<=f k/\f k<=hi){k:Int}(h0:lo<=k)(h1:k<=hi):∀n,lo<=Yb f n k/\Yb f n k<=hi:=by
 intro n;induction n with
 | zero=>exact⟨h0,h1⟩
 | succ n ih=>exact hf _ ih.1 ih.2
def Ku(l:List Int):Int:=
 match WY (fun i=>decide (X6 (ix l i) true≠0)) 0 l.length with
 | some r=>(r:Int)
 | none=>max 0 ((l.length:Int)-1)
def RJ(l:List Int)(c:Int)(i:Nat):Nat->List Int
 | 0=>[]
 | m+1=>if ix l i=c then(i:Int)::RJ l c (i+1) m else RJ l c (i+1) m
def RU(l:List Int)(c:Int):Nat->List Int
 | 0=>[]
 | i+1=>if ix l i=c then(i:Int)::RU l c i else RU l c i
theorem sG{l:List Int}{c:Int}{i m:Nat}(h:ix l i=c):RJ l c i (m+1)=(i:Int)::RJ l c (i+1) m:=if_pos h
theorem fo{l:List Int}{c:Int}{i m:Nat}(h:ix l i≠c):RJ l c i (m+1)=RJ l c (i+1) m:=if_neg h
theorem sH{l:List Int}{c:Int}{i:Nat}(h:ix l i=c):RU l c (i+1)=(i:Int)::RU l c i:=if_pos h
theorem fw{l:List Int}{c:Int}{i:Nat}(h:ix l i≠c):RU l c (i+1)=RU l c i:=if_neg h
theorem Am(l:List Int)(c:Int)(m:Nat):∀i,∀x∈RJ l c i m,(i:Int)<=x/\x<i+m:=by
 induction m with
 | zero=>intro i x hx;simp[RJ]at hx
 | succ m ih=>
  intro i x hx;unfold RJ at hx;split at hx
  ·rcases Zb.1 hx with rfl|hx
   ·omega
   ·have:=ih _ x hx;omega
  ·have:=ih _ x hx;omega
theorem FL(l:List Int)(c:Int)(i:Nat):∀x∈RU l c i,0<=x/\x<i:=by
 induction i with
 | zero=>intro x hx;simp[RU]at hx
 | succ i ih=>
  intro x hx;unfold RU at hx;split at hx
  ·rcases Zb.1 hx with rfl|hx
   ·omega
   ·have:=ih x hx;omega
  ·have:=ih x hx;omega
def JY(l:List Int)(k:Nat)(c:Int):List Int:=RJ l c (k+1) (l.length-(k+1))
def Jk(l:List Int)(k:Nat)(c:Int):List Int:=RU l c k
def Kc(l:List Int)(k:Nat):Int:=
 match WY (fun i=>decide (JZ (ix l i)≠0)) k (l.length-k)with
 | some r=>ix (Jr l l.length l.length).out r
 | none=> -1
def Ym(l:List Int)(k:Nat)(key n arg:Int)(op:Bool):Option (Int×Bool):=
 if key=104 then(if k=0 then none else some (max 0 (k-n),false))
 else if key=108 then(if(if op then(l.length:Int)else l.length-1)<=k then none else some (min (if op then(l.length:Int)else l.length-1) (k+n),false))
 else if key=48 then some (0,false)
 else if key=94 then some (Ku l,false)
 else if key=98\/key=66 then(if k=0 then none else some (Yb (Kl l (key==66)) n.toNat k,false))
 else if key=102\/key=116 then(match(JY l k arg)[n.toNat-1]? with|some at'=>some (if key=116 then at'-1 else at',true)|none=>none)
 else if key=70\/key=84 then(match(Jk l k arg)[n.toNat-1]? with|some at'=>some (if key=84 then at'+1 else at',false)|none=>none)
 else if l.length=0 then none
 else if key=36 then some (l.length-1,true)
 else if key=124 then some (min n l.length-1,false)
 else if key=119\/key=87 then
  (
   if op then some (Yb (JO l (key==87)) n.toNat k,false)
   else if min (Yb (JO l (key==87)) n.toNat k) (l.length-1)=k then none else some (min (Yb (JO l (key==87)) n.toNat k) (l.length-1),false))
 else if key=101\/key=69 then
  (if op=false/\Yb (Vi l (key==69)) n.toNat k=k then none else some (Yb (Vi l (key==69)) n.toNat k,true))
 else if Kc l k<0 then none else some (Kc l k,true)
def Kj(key:Int):Bool:=[104,108,48,94,36,124,119,87,98,66,101,69,37,102,70,116,84].contains key
def JG(l:List Int)(k key count:Int):Int:=
 if 4096<l.length then 2 else if k<0\/(0<k/\(l.length:Int)<=k)\/count<0\/999<count then 1 else if Kj key then 0 else 9
def xu(key:Int):Bool:=[102,70,116,84].contains key
theorem La(key:Int):key=104\/key=108\/key=48\/key=94\/key=36\/key=124\/key=119\/key=87\/key=98\/key=66\/key=101\/key=69\/key=37\/key=102\/key=70\/key=116\/key=84\/Kj key=false:=by
 cases h:Kj key
 ·simp
 ·simp[Kj]at h
  omega
theorem iJ{key:Int}(h:Kj key=false):(key==104)=false/\(key==108)=false/\(key==48)=false/\(key==94)=false/\(key==36)=false/\(key==124)=false/\(key==119)=false/\(key==87)=false/\(key==98)=false/\(key==66)=false/\(key==101)=false/\(key==69)=false/\(key==37)=false/\(key==102)=false/\(key==70)=false/\(key==116)=false/\(key==84)=false:=by
 simp[Kj]at h;simp;omega
theorem ax{key:Int}(h:Kj key=false):xu key=false:=by
 simp[Kj]at h;simp[xu];omega
theorem Kw(key:Int)(w:World):
  Calls Tryz.prog 174 #[.int .i64 key] w fun e w'=>e=.returned (.tuple #[.bool (Kj key),.bool (xu key)])/\w=w':=by
 rcases La key with rfl|rfl|rfl|rfl|rfl|rfl|rfl|rfl|rfl|rfl|rfl|rfl|rfl|rfl|rfl|rfl|rfl|h
 case inr.inr.inr.inr.inr.inr.inr.inr.inr.inr.inr.inr.inr.inr.inr.inr.inr=>
  obtain⟨h1,h2,h3,h4,h5,h6,h7,h8,h9,h10,h11,h12,bS,h14,h15,h16,h17⟩:=iJ h;have HF:=Zy (ax h);have HK:=Zy h;clear h;go_enter Tryz.func174,Tryz.ntmps174
  go_wp2;go_ret2
  exact⟨by rw[HF.out,HK.out];rfl,rfl⟩
 all_goals
  go_enter Tryz.func174,Tryz.ntmps174
  go_wp2;go_ret2
  exact⟨rfl,rfl⟩
def Nh(key count arg:Int):Value:=.agg #[.int .i64 key,.int .i64 count,.int .i64 arg]
theorem Ni(l:List Int)(k key count:Int):(4096<l.length/\JG l k key count=2)\/(l.length<=4096/\((k<0\/(0<=k/\max 0 ((l.length:Int)-1)<k))\/(0<=k/\k<=max 0 ((l.length:Int)-1)/\(count<0\/999<count)))/\JG l k key count=1)
  \/(l.length<=4096/\0<=k/\k<=max 0 ((l.length:Int)-1)/\0<=count/\count<=999/\JG l k key count=if Kj key then 0 else 9):=by
 unfold JG;by_cases h1:4096<l.length
 ·left;rw[if_pos h1];exact⟨h1,rfl⟩
 ·rw[if_neg h1]
  right
  by_cases h2:k<0\/(0<k/\(l.length:Int)<=k)\/count<0\/999<count
  ·left;rw[if_pos h2];exact⟨QQ,QQ,rfl⟩
  ·right;rw[if_neg h2];exact⟨QQ,QQ,QQ,QQ,QQ,rfl⟩
theorem VZ(a:Option Addr)(n c:Nat)(l:List Int)(k key count arg:Int)(w:World)(hn:l.length=n)(hn2:n<=9223372036854775807)(hk:qg k):
  Calls Tryz.prog 173 #[.slice a n c,.int .i64 k,Nh key count arg] w fun e w'=>e=.returned (.int .i64 (JG l k key count))/\Below w.heap.size w w':=by
 unfold Nh;obtain⟨hk1,hk2⟩:=hk;have hB:=Za.new w #[.int .i64 key,.int .i64 count,.int .i64 arg] 243;obtain⟨c0,c1,c2,-,-,-⟩:=hB.three;have hacc:=ZR w (.cells #[.int .i64 key,.int .i64 count,.int .i64 arg] 243);rcases Ni l k key count with⟨h1,h2⟩|⟨h1,h2,h3⟩|⟨h1,h2,h3,h4,h5,h6⟩
 ·rw[h2]
  rw[hn]at h1;clear h2 hn;go_enter Tryz.func173,Tryz.ntmps173
  go_wp2;exact QLZ
 ·rw[h3]
  rw[hn]at h1 h2;clear h3 hn;rcases h2 with(h|⟨h,h'⟩)|⟨h,h',h''|h''⟩
  all_goals
   go_enter Tryz.func173,Tryz.ntmps173
   go_wp2
   all_goals
    exact QLZ
 ·rw[h6]
  rw[hn]at h1 h3;clear h6 hn;cases hK:Kj key
  ·have HK:=Zy hK;clear hK
   exact QHr
  ·have HK:=Zy hK;clear hK
   exact QHr
def KJ(a:Option Addr)(n c:Nat)(k:Nat)(m:Int)(op:Bool):Value:=.agg #[.slice a n c,.int .i64 (k:Int),.int .i64 m,.bool op]
theorem Za.four{w:World}{B:Nat}{u0 u1 u2 u3:Value}{e:TypeId}(h:Za w B #[u0,u1,u2,u3] e):w.cell? ⟨B,0,none⟩=some u0/\w.cell? ⟨B,1,none⟩=some u1/\w.cell? ⟨B,2,none⟩=some u2/\w.cell? ⟨B,3,none⟩=some u3:=⟨h.cell 0,h.cell 1,h.cell 2,h.cell 3⟩
def QZj(v:Int)(w:World)(e:Ending)(w':World):Prop:=e=.returned (.int .i64 v)/\Below w.heap.size w w'
theorem IU(a:Option Addr)(n c:Nat)(l:List Int)(big:Bool)(k:Int)(w:World)(hl:Ints w a l)(hn:l.length=n)(hn2:n<=4096)(hk0:0<=k)(hk1:k<=n):
  Calls Tryz.prog 192 #[.slice a n c,.int .i64 k,.bool big] w fun e w'=>e=.returned (.tuple #[.int .i64 (JO l big k),.int .i64 0])/\Below w.heap.size w w':=
 (ES a n c l big k w hl hn hn2 hk0 hk1).mono fun e w' ⟨r,h1,h2,h3⟩=>by
  obtain rfl:=TF hk0 QQ h2 (EU l big k hk0 QQ);exact⟨h1,h3⟩
theorem IW(a:Option Addr)(n c:Nat)(l:List Int)(big:Bool)(k:Int)(w:World)(hl:Ints w a l)(hn:l.length=n)(hn2:n<=4096)(hk0:0<=k)(hk1:k<=n):
  Calls Tryz.prog 122 #[.slice a n c,.int .i64 k,.bool big] w fun e w'=>e=.returned (.tuple #[.int .i64 (Kl l big k),.int .i64 0])/\Below w.heap.size w w':=
 (yu a n c l big k w hl hn hn2 hk0 hk1).mono fun e w' ⟨r,h1,h2,h3⟩=>by
  obtain rfl:=EI hk0 QQ h2 (WT l big k hk0);exact⟨h1,h3⟩
theorem Mw(a:Option Addr)(n c:Nat)(l:List Int)(big:Bool)(k:Int)(w:World)(hl:Ints w a l)(hn:l.length=n)(hn2:n<=4096)(hk0:0<=k)(hk1:k<=n):
  Calls Tryz.prog 193 #[.slice a n c,.int .i64 k,.bool big] w fun e w'=>e=.returned (.tuple #[.int .i64 (Vi l big k),.int .i64 0])/\Below w.heap.size w w':=
 (IV a n c l big k w hl hn hn2 hk0 hk1).mono fun e w' ⟨r,h1,h2,h3⟩=>by
  obtain rfl:=mZ hk0 QQ h2 (jW l big k hk0);exact⟨h1,h3⟩
theorem Jm(a:Option Addr)(n c:Nat)(l:List Int)(k:Nat)(m:Nat)(op big:Bool)(w:World)(hl:Ints w a l)(hn:l.length=n)(hn2:n<=4096)(hk:k<=n)(hm:m<=1000):
  Calls Tryz.prog 185 #[KJ a n c k (m:Int) op,.func (.func 192) #[] #[],.bool big] w (QZj (Yb (JO l big) m k) w):=by
 unfold KJ;have HB:=Zy (fun j=>KH (f:=JO l big) (lo:=0) (hi:=(n:Int)) (fun x h0 h1=>by rw[<-hn];exact yf l big x h0 QQ) (k:=(k:Int)) QQ QQ j);have HN:=Zy hn;clear hn;have hB:=Za.new w #[.slice a n c,.int .i64 (k:Int),.int .i64 (m:Int),.bool op] 260;obtain⟨c0,c1,c2,c3⟩:=hB.four;have hacc:=ZR w (.cells #[.slice a n c,.int .i64 (k:Int),.int .i64 (m:Int),.bool op] 260);have hsz:w.heap.size<(w.alloc (.cells #[.slice a n c,.int .i64 (k:Int),.int .i64 (m:Int),.bool op] 260)).heap.size:=QJ;go_enter Tryz.func185,Tryz.ntmps185
 go_upto_region 1 with fail
 change Code.wp _ _ _ _ (w.alloc (.cells #[.slice a n c,.int .i64 (k:Int),.int .i64 (m:Int),.bool op] 260));generalize(w.alloc (.cells #[.slice a n c,.int .i64 (k:Int),.int .i64 (m:Int),.bool op] 260))=w1 at *;go_wp2
 go_loopw [7,12] (fun v i wr=>∃j:Nat,i=.int .i64 (j:Int)/\j<=m/\v=.int .i64 (Yb (JO l big) j (k:Int))/\Za wr w.heap.size #[.slice a n c,.int .i64 (k:Int),.int .i64 (m:Int),.bool op] 260/\Below w.heap.size w wr) (fun _ i _=>m-(intOf i).toNat)
 case atStart=>exact⟨0,rfl,QQ,rfl,hB,hacc⟩
 case round=>
  obtain⟨j,rfl,hj,rfl,hB2,hbel⟩:=hrel;obtain⟨d0,d1,d2,d3⟩:=hB2.four;obtain⟨g0,g1⟩:=HB.out j;by_cases hlt:j<m
  ·clear c0 c1 c2 c3
   go_wp2_with fail
   refine(IU a n c l big _ _ (hl.below hbel) HN.out hn2 g0 g1).mono ?_;exact QG2
  ·obtain rfl:j=m:=by omega
   exact QIr
theorem qG(a:Option Addr)(n c:Nat)(l:List Int)(k:Nat)(m:Nat)(op big:Bool)(w:World)(hl:Ints w a l)(hn:l.length=n)(hn2:n<=4096)(hk:k<=n)(hm:m<=1000):
  Calls Tryz.prog 185 #[KJ a n c k (m:Int) op,.func (.func 122) #[] #[],.bool big] w (QZj (Yb (Kl l big) m k) w):=by
 unfold KJ;have HB:=Zy (fun j=>KH (f:=Kl l big) (lo:=0) (hi:=(n:Int)) (fun x h0 h1=>by rw[<-hn];exact MC l big x h0 QQ) (k:=(k:Int)) QQ QQ j);have HN:=Zy hn;clear hn;have hB:=Za.new w #[.slice a n c,.int .i64 (k:Int),.int .i64 (m:Int),.bool op] 260;obtain⟨c0,c1,c2,c3⟩:=hB.four;have hacc:=ZR w (.cells #[.slice a n c,.int .i64 (k:Int),.int .i64 (m:Int),.bool op] 260);have hsz:w.heap.size<(w.alloc (.cells #[.slice a n c,.int .i64 (k:Int),.int .i64 (m:Int),.bool op] 260)).heap.size:=QJ;go_enter Tryz.func185,Tryz.ntmps185
 go_upto_region 1 with fail
 change Code.wp _ _ _ _ (w.alloc (.cells #[.slice a n c,.int .i64 (k:Int),.int .i64 (m:Int),.bool op] 260));generalize(w.alloc (.cells #[.slice a n c,.int .i64 (k:Int),.int .i64 (m:Int),.bool op] 260))=w1 at *;go_wp2
 go_loopw [7,12] (fun v i wr=>∃j:Nat,i=.int .i64 (j:Int)/\j<=m/\v=.int .i64 (Yb (Kl l big) j (k:Int))/\Za wr w.heap.size #[.slice a n c,.int .i64 (k:Int),.int .i64 (m:Int),.bool op] 260/\Below w.heap.size w wr) (fun _ i _=>m-(intOf i).toNat)
 case atStart=>exact⟨0,rfl,QQ,rfl,hB,hacc⟩
 case round=>
  obtain⟨j,rfl,hj,rfl,hB2,hbel⟩:=hrel;obtain⟨d0,d1,d2,d3⟩:=hB2.four;obtain⟨g0,g1⟩:=HB.out j;by_cases hlt:j<m
  ·clear c0 c1 c2 c3
   go_wp2_with fail
   refine(IW a n c l big _ _ (hl.below hbel) HN.out hn2 g0 g1).mono ?_;exact QG2
  ·obtain rfl:j=m:=by omega
   exact QIr
theorem VS(a:Option Addr)(n c:Nat)(l:List Int)(k:Nat)(m:Nat)(op big:Bool)(w:World)(hl:Ints w a l)(hn:l.length=n)(hn2:n<=4096)(hk:k<=n)(hm:m<=1000):
  Calls Tryz.prog 185 #[KJ a n c k (m:Int) op,.func (.func 193) #[] #[],.bool big] w (QZj (Yb (Vi l big) m k) w):=by
 unfold KJ;have HB:=Zy (fun j=>KH (f:=Vi l big) (lo:=0) (hi:=(n:Int)) (fun x h0 h1=>by rw[<-hn];exact Gh l big x h0 QQ) (k:=(k:Int)) QQ QQ j);have HN:=Zy hn;clear hn;have hB:=Za.new w #[.slice a n c,.int .i64 (k:Int),.int .i64 (m:Int),.bool op] 260;obtain⟨c0,c1,c2,c3⟩:=hB.four;have hacc:=ZR w (.cells #[.slice a n c,.int .i64 (k:Int),.int .i64 (m:Int),.bool op] 260);have hsz:w.heap.size<(w.alloc (.cells #[.slice a n c,.int .i64 (k:Int),.int .i64 (m:Int),.bool op] 260)).heap.size:=QJ;go_enter Tryz.func185,Tryz.ntmps185
 go_upto_region 1 with fail
 change Code.wp _ _ _ _ (w.alloc (.cells #[.slice a n c,.int .i64 (k:Int),.int .i64 (m:Int),.bool op] 260));generalize(w.alloc (.cells #[.slice a n c,.int .i64 (k:Int),.int .i64 (m:Int),.bool op] 260))=w1 at *;go_wp2
 go_loopw [7,12] (fun v i wr=>∃j:Nat,i=.int .i64 (j:Int)/\j<=m/\v=.int .i64 (Yb (Vi l big) j (k:Int))/\Za wr w.heap.size #[.slice a n c,.int .i64 (k:Int),.int .i64 (m:Int),.bool op] 260/\Below w.heap.size w wr) (fun _ i _=>m-(intOf i).toNat)
 case atStart=>exact⟨0,rfl,QQ,rfl,hB,hacc⟩
 case round=>
  obtain⟨j,rfl,hj,rfl,hB2,hbel⟩:=hrel;obtain⟨d0,d1,d2,d3⟩:=hB2.four;obtain⟨g0,g1⟩:=HB.out j;by_cases hlt:j<m
  ·clear c0 c1 c2 c3
   go_wp2_with fail
   refine(Mw a n c l big _ _ (hl.below hbel) HN.out hn2 g0 g1).mono ?_;exact QG2
  ·obtain rfl:j=m:=by omega
   exact QIr
end Go.Proofs.YtmdnepkekekncaaGreat
