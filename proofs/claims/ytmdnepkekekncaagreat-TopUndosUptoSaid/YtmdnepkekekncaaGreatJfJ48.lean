/- joined, no condition of its own. -/
import Derived.Test.YtmdnepkekekncaaGreatJfJ47
set_option linter.unusedVariables false
set_option linter.unusedSimpArgs false
set_option maxRecDepth 100000
set_option maxHeartbeats 12000000
namespace Go.Proofs.YtmdnepkekekncaaGreat
open Go.RowKit
deriving instance DecidableEq for C5
def Vz:C5:=⟨0,0,0,0,0⟩
def TK.qc(t:TK):C5:=⟨t.q0,t.q1,t.q2,t.q3,t.q4⟩
def TK.cc(t:TK):C5:=⟨t.c0,t.c1,t.c2,t.c3,t.c4⟩
structure zt where
 out:List C5
 p:C5
 n:Int
def zt.step(s:zt)(key:Int):zt:=
 let t:=YV s.p.a s.p.b s.p.c s.p.d s.p.e key
 ⟨if t.how=2 then s.out++[t.cc]else s.out,t.qc,if t.how=3 then s.n+1 else s.n⟩
def Vh(l:List Int):zt:=l.foldl zt.step ⟨[],Vz,0⟩
def C5.ok(p:C5):Prop:=Yl p.a p.b p.c p.d p.e=0
theorem VI:Yl 0 0 0 0 0=0:=QZ
theorem gZ{f r o s wt:Int}(h1:yX f o s=true)(h2:BX r o=true)(h3:uB r o wt=true):Yl f r o s wt=0:=by
 unfold Yl;rw[h1,h2,h3];rfl
theorem LJ{f r o s wt:Int}(h:Yl f r o s wt=0):yX f o s=true/\BX r o=true/\uB r o wt=true:=by
 unfold Yl at h;split at h
 ·rename_i h';simp at h';exact⟨h'.1.1,h'.1.2,h'.2⟩
 ·simp at h
theorem vY(f r o s wt key:Int):(YV f r o s wt key).how=1\/(YV f r o s wt key).how=2\/(YV f r o s wt key).how=3:=by
 unfold YV VW
 repeat' split
 all_goals simp[TK.wrong,TK.more,TK.done]
theorem zV{f r o s wt:Int}(h1:yX f o s=true)(h2:BX r o=true)(h3:uB r o wt=true):(TK.more f r o s wt).qc.ok:=gZ h1 h2 h3
theorem WN:TK.wrong.qc.ok:=VI
theorem yw(f r o s verb arg:Int):(TK.done f r o s verb arg).qc.ok:=VI
theorem yA(r o:Int):uB r o 0=true:=by simp[uB]
theorem iA{f r o s key:Int}(h:Jw f r o s key=1):Ml (if o≠0 then s else f) key=true:=by
 by_cases hd:Ml (if o≠0 then s else f) key=true
 ·exact hd
 ·unfold Jw at h
  rw[if_neg hd]at h;clear hd
  repeat' split at h
  all_goals(exfalso;omega)
theorem tH{f r o s key:Int}(h:Jw f r o s key=2\/Jw f r o s key=4\/Jw f r o s key=7\/Jw f r o s key=8):uB r o key=true:=by
 unfold Jw at h
 repeat' split at h
 all_goals first|(exfalso;omega)|(simp_all[uB];done)
theorem QUb{f r o s key:Int}(h:Jw f r o s key=3):Rq key=true:=by
 unfold Jw at h
 repeat' split at h
 all_goals first|assumption|omega
theorem mq{n key:Int}(h0:0<=n)(h1:48<=key)(h2:key<=57):0<=Ue n key/\Ue n key<=999:=by
 unfold Ue;omega
theorem E9{f r o s wt:Int}(key:Int)(h:Yl f r o s wt=0):(YV f r o s wt key).qc.ok:=by
 obtain⟨h1,h2,h3⟩:=LJ h;unfold YV;split
 ·exact WN
 split
 ·unfold VW
  split
  ·split
   ·rename_i hl
    refine zV h1 ?_ (yA _ _);simp[BX]at h2 ⊢;exact⟨.inr hl,h2.2⟩
   ·exact WN
  ·split
   ·split
    ·exact yw ..
    ·exact WN
   ·exact yw ..
 ·split
  ·rename_i hk
   have hd:=iA hk;split
   ·rename_i ho
    rw[if_pos ho]at hd;simp[Ml]at hd;simp[yX]at h1;have:=mq (n:=s) (key:=key) QQ QQ QQ;refine zV ?_ h2 (yA _ _);simp[yX];omega
   ·rename_i ho
    rw[if_neg ho]at hd;simp[Ml]at hd;simp[yX]at h1;have:=mq (n:=f) (key:=key) QQ QQ QQ;refine zV ?_ h2 (yA _ _);simp[yX];omega
  ·split
   ·rename_i hk
    exact zV h1 h2 (tH hk)
   ·split
    ·rename_i hk
     have ho:=QUb hk;split
     ·rename_i h0
      subst h0;have hn:key≠0:=by rintro rfl;simp[Rq]at ho
      refine zV ?_ ?_ (yA _ _)
      ·simp[yX]at h1 ⊢;omega
      ·simp[BX]at h2 ⊢;exact⟨h2,.inr ho⟩
     ·split
      ·exact WN
      ·exact yw ..
    ·split
     ·exact yw ..
     ·exact WN
structure zt.good (s:zt) (k:Nat):Prop where
 ok:s.p.ok
 len:s.out.length<=k
 lo:0<=s.n
 hi:s.n<=k
theorem zt.good.step{s:zt}{k:Nat}(h:s.good k)(key:Int):(s.step key).good (k+1):=by
 have h1:=h.len;have h2:=h.lo;have h3:=h.hi;refine⟨E9 key h.ok,?_,?_,?_⟩
 ·simp only[zt.step];split
  ·simp;omega
  ·omega
 ·simp only[zt.step];split<;>omega
 ·simp only[zt.step];split<;>omega
theorem rA(l:List Int):∀(s:zt) (k:Nat),s.good k->(l.foldl zt.step s).good (k+l.length):=by
 induction l with
 | nil=>intro s k h;exact h
 | cons a r ih=>
  intro s k h;have:=ih (s.step a) (k+1) (h.step a);rw[List.foldl_cons,Xq,show k+(r.length+1)=k+1+r.length from QQ];exact this
theorem Ig(l:List Int):(Vh l).good l.length:=by
 have:=rA l ⟨[],Vz,0⟩ 0 ⟨VI,QJ,QJ,QJ⟩
 rwa[XI]at this
theorem di{l:List Int}{k:Nat}(hk:k<l.length):Vh (l.take (k+1))=(Vh (l.take k)).step (ix l k):=by
 unfold Vh;rw[List.take_add_one,List.foldl_append,Ya hk,Z8 hk];rfl
theorem FK{l:List Int}{k:Nat}(hk:k<=l.length):(Vh (l.take k)).good k:=by
 have:=Ig (l.take k)
 rwa[Zi,YJ hk]at this
def Gp(n:Int):List Int:=(if 100<=n then[48+n / 100 % 10]else[])++(if 10<=n then[48+n / 10 % 10]else[])++(if 1<=n then[48+n % 10]else[])
def jH(c:C5):Bool:=zA c.d || decide (c.d=114) || (vB c.d&&decide (c.c≠0))
def Xu(c:C5):List Int:=(if c.b≠0 then[34,c.b]else[])++Gp c.a++(if c.c≠0 then[c.c]else[])++[c.d]++(if jH c=true then[c.e]else[])
def xQ(c:C5):Bool:=decide ((Vh (Xu c)).out=[c])&&decide ((Vh (Xu c)).p=Vz)&&decide ((Vh (Xu c)).n=0)
def Md(c:C5):List Int:=if c.a<0\/999<c.a then[]else if xQ c=true then Xu c else[]
def oz(c:C5):Int:=if c.a<0\/999<c.a then 1 else if xQ c=true then 0 else 4
theorem Rz{f r o s wt key:Int}(hok:Yl f r o s wt=0)(h:(YV f r o s wt key).how=1):(YV f r o s wt key).qc≠Vz/\32<=key:=by
 obtain⟨h1,-,-⟩:=LJ hok;simp[yX]at h1;unfold YV at h ⊢;by_cases hk:key<32\/key=127
 ·rw[if_pos hk]at h;exact absurd h QZ
 ·rw[if_neg hk]at h ⊢
  refine⟨?_,QQ⟩;by_cases hw:wt≠0
  ·rw[if_pos hw]at h ⊢
   unfold VW at h ⊢;by_cases aY:wt=34
   ·rw[if_pos aY]at h ⊢
    by_cases hl:DZ key=true
    ·rw[if_pos hl]
     intro e;have:(TK.more f key o s 0).qc.b=Vz.b:=by rw[e]
     have:key=0:=this;omega
    ·rw[if_neg hl]at h;exact absurd h QZ
   ·rw[if_neg aY]at h
    split at h
    ·split at h
     ·exact absurd h QE2
     ·exact absurd h QZ
    ·exact absurd h QE2
  ·rw[if_neg hw]at h ⊢
   by_cases k1:Jw f r o s key=1
   ·rw[if_pos k1]at h ⊢
    have hd:=iA k1;by_cases ho:o≠0
    ·rw[if_pos ho]
     intro e;have:(TK.more f r o (Ue s key) 0).qc.c=Vz.c:=by rw[e]
     exact ho this
    ·rw[if_neg ho]at hd ⊢
     intro e;have:(TK.more (Ue f key) r o s 0).qc.a=Vz.a:=by rw[e]
     have h0:Ue f key=0:=this;unfold Ue at h0;simp[Ml]at hd;omega
   ·rw[if_neg k1]at h ⊢
    by_cases k2:Jw f r o s key=2\/Jw f r o s key=4\/Jw f r o s key=7\/Jw f r o s key=8
    ·rw[if_pos k2]
     intro e;have:(TK.more f r o s key).qc.e=Vz.e:=by rw[e]
     have:key=0:=this;omega
    ·rw[if_neg k2]at h ⊢
     by_cases k3:Jw f r o s key=3
     ·rw[if_pos k3]at h ⊢
      by_cases ho:o=0
      ·rw[if_pos ho]
       intro e;have:(TK.more f r key s 0).qc.c=Vz.c:=by rw[e]
       have:key=0:=this;omega
      ·rw[if_neg ho]at h
       split at h
       ·exact absurd h QZ
       ·exact absurd h QE2
     ·rw[if_neg k3]at h
      split at h
      ·exact absurd h QE2
      ·exact absurd h QZ
def Fg(p:C5):List Int->Option C5
 | []=>some p
 | k::l=>if(YV p.a p.b p.c p.d p.e k).how=1 then Fg (YV p.a p.b p.c p.d p.e k).qc l else none
theorem ED{f r o s wt key:Int}(h:(YV f r o s wt key).how=2):(YV f r o s wt key).qc=Vz/\32<=key:=by
 unfold YV at h ⊢;by_cases hk:key<32\/key=127
 ·rw[if_pos hk]at h;exact absurd h QZ
 ·rw[if_neg hk]at h ⊢
  refine⟨?_,QQ⟩;unfold VW at h ⊢
  revert h
  repeat' split
  all_goals first
   | (intro h;rfl)
   | (intro h;exact absurd h (by simp[TK.more]))
   | (intro h;exact absurd h QZ)
theorem FJ(l:List Int):∀s:zt,s.out.length<=(l.foldl zt.step s).out.length/\s.n<=(l.foldl zt.step s).n:=by
 induction l with
 | nil=>intro s;exact⟨ZB _,Int.le_refl _⟩
 | cons a r ih=>
  intro s;have h1:=ih (s.step a);have h2:s.out.length<=(s.step a).out.length/\s.n<=(s.step a).n:=by
   simp only[zt.step];refine⟨?_,?_⟩<;>split<;>(try simp)<;>omega
  rw[List.foldl_cons];omega
theorem dh(l:List Int):∀s:zt,s.p.ok->1<=s.out.length->(2<=s.out.length\/1<=s.n\/s.p≠Vz)->0<=s.n->let t:=l.foldl zt.step s;2<=t.out.length\/1<=t.n\/t.p≠Vz:=by
 induction l with
 | nil=>intro s _ _ h _;exact h
 | cons a r ih=>
  intro s hok h1 h2 h0;rw[List.foldl_cons];have hm:=FJ [a] s;simp only[List.foldl_cons,List.foldl_nil]at hm;refine ih (s.step a) (E9 a hok) QQ ?_ QQ;rcases h2 with h2|h2|h2
  ·exact .inl QQ
  ·exact .inr (.inl QQ)
  ·rcases vY s.p.a s.p.b s.p.c s.p.d s.p.e a with e|e|e
   ·exact .inr (.inr (Rz hok e).1)
   ·refine .inl ?_
    simp only[zt.step,e,if_true,ZN,Xq,List.length_nil];omega
   ·refine .inr (.inl ?_)
    simp only[zt.step,e,if_true];omega
theorem IJ(c:C5)(l:List Int):∀s:zt,s.p.ok->s.out=[]->s.n=0->(l.foldl zt.step s).out=[c]->(l.foldl zt.step s).p=Vz->(l.foldl zt.step s).n=0->
  ∃K k p,l=K++[k]/\Fg s.p K=some p/\p.ok/\(YV p.a p.b p.c p.d p.e k).how=2/\(YV p.a p.b p.c p.d p.e k).cc=c:=by
 induction l with
 | nil=>intro s _ h1 _ h2 _ _;rw[List.foldl_nil,h1]at h2;cases h2
 | cons a r ih=>
  intro s hok h1 h0 g1 g2 g3;rw[List.foldl_cons]at g1 g2 g3;have hok2:=E9 a hok;rcases vY s.p.a s.p.b s.p.c s.p.d s.p.e a with e|e|e
  ·obtain⟨K,k,p,q1,q2,q3,q4,q5⟩:=ih (s.step a) hok2 (by simp[zt.step,e,h1]) (by simp[zt.step,e,h0]) g1 g2 g3
   refine⟨a::K,k,p,by rw[q1];rfl,?_,q3,q4,q5⟩
   show(if(YV s.p.a s.p.b s.p.c s.p.d s.p.e a).how=1 then _ else none)=_
   rw[if_pos e];exact q2
  ·have hs:s.step a=⟨[(YV s.p.a s.p.b s.p.c s.p.d s.p.e a).cc],(YV s.p.a s.p.b s.p.c s.p.d s.p.e a).qc,0⟩:=by simp[zt.step,e,h1,h0]
   rw[hs]at g1 g2 g3;cases r with
   | nil=>
    refine⟨[],a,s.p,rfl,rfl,hok,e,?_⟩;simpa using g1
   | cons b r=>
    exfalso
    rw[(ED e).1,List.foldl_cons]at g1 g2 g3;have hz:(Vz:C5).ok:=VI;have hm:=FJ [b] ⟨[(YV s.p.a s.p.b s.p.c s.p.d s.p.e a).cc],Vz,0⟩;simp only[List.foldl_cons,List.foldl_nil,Xq,List.length_nil]at hm;have:=dh r (zt.step ⟨[(YV s.p.a s.p.b s.p.c s.p.d s.p.e a).cc],Vz,0⟩ b) (E9 b hz) QQ (by
     rcases vY 0 0 0 0 0 b with e|e|e
     ·exact .inr (.inr (Rz hz e).1)
     ·refine .inl ?_
      simp[zt.step,Vz,e]
     ·refine .inr (.inl ?_)
      simp[zt.step,Vz,e]) QQ
    dsimp only at this;rw[g1,g2,g3]at this;simp at this
  ·exfalso
   have hm:=FJ r (s.step a);have:(s.step a).n=1:=by simp[zt.step,e,h0]
   omega
theorem vT{c:C5}(h:xQ c=true):∃K k p,Xu c=K++[k]/\Fg Vz K=some p/\p.ok/\(YV p.a p.b p.c p.d p.e k).how=2/\(YV p.a p.b p.c p.d p.e k).cc=c:=by
 simp[xQ]at h;exact IJ c (Xu c) ⟨[],Vz,0⟩ VI rfl rfl h.1.1 h.1.2 h.2
theorem QX8(x:Int):128<=U5 x:=by
 unfold U5
 repeat' split
 all_goals omega
theorem QQS(A:List Int){x:Int}(h:x<128):VU A x=false:=by
 unfold VU;split
 ·have:=QX8 (ix A 0)
  exact decide_eq_false QQ
 ·exact decide_eq_false QQ
theorem dN(A o:List Int){x:Int}(h0:0<=x)(h:x<128)(hA:A≠[]):MS.take ⟨A,o⟩ x=⟨[],o++[65533]++[x]⟩:=by
 have e1:MS.take ⟨A,o⟩ x=MS.take ⟨[],o++[65533]⟩ x:=by
  unfold MS.take;rw[if_pos ⟨hA,QQS A h⟩,if_neg (fun e=>e.1 rfl)];unfold MS.brk;rw[if_neg hA]
 rw[e1,FC (wh1 h)];congr 2
 have hB:Cx [x]:=fun y hy=>by simp at hy;omega
 rw[kD hB];unfold gL;rw[show ix [x] 0=x from rfl,L9 QJ h]
theorem Ac{a:Int}(h0:0<=a)(h:a<128):∀(n:Nat) (l:List Int),l.length=n->qF l=true->∃R,qI (runesBytes (a::l))=a::R/\∀o,R.foldl MS.take ⟨[],o⟩=⟨[],o++l⟩
 | 0,l,hn,hl=>by
  obtain rfl:l=[]:=ZM hn;refine⟨[],?_,fun o=>by rw[List.append_nil];rfl⟩;have e:runesBytes [a]=Utf8.encode a:=(Uv [] a).trans ByteArray.empty_append;have hs:KD a=true:=by simp[KD];omega
  obtain⟨h1,h2,-,-⟩:=Rc hs;rw[e,h1,Gt h2];unfold Gi;rw[if_pos h]
 | n+1,l,hn,hl=>by
  rcases List.eq_nil_or_concat l with rfl|⟨L,b,rfl⟩
  ·simp at hn
  ·rw[List.concat_eq_append]at hn hl ⊢
   rw[vU,Bool.and_eq_true]at hl;have hb:KD b=true:=by simpa[qF]using hl.2
   obtain⟨R,h1,h2⟩:=Ac h0 h n L (by simp at hn;omega) hl.1;refine⟨R++qI (Utf8.encode b),?_,fun o=>?_⟩
   ·rw[<-List.cons_append,Uv,G6,h1];rfl
   ·rw[List.foldl_append,h2,P6 hb,List.append_assoc]
theorem eH{p:ByteArray}(hp:yJ p){a:Int}{l:List Int}(h0:0<=a)(h:a<128)(hl:qF l=true):
  (JU (p++runesBytes (a::l))).ah=[]/\((JU (p++runesBytes (a::l))).out=a::l\/(JU (p++runesBytes (a::l))).out=65533::a::l):=by
 obtain⟨R,h1,h2⟩:=Ac h0 h _ l rfl hl;have e:JU (p++runesBytes (a::l))=R.foldl MS.take (MS.take (JU p) a):=by
  unfold JU VE;rw[G6,List.foldl_append,h1];rfl
 have ho:=hp.out;rw[e];generalize JU p=m at *;obtain⟨A,o⟩:=m;dsimp only at ho;subst ho;by_cases hA:A=[]
 ·subst hA
  have hB:Cx [a]:=fun y hy=>by simp at hy;omega
  rw[FC (wh1 h),kD hB,h2];unfold gL;rw[show ix [a] 0=a from rfl,L9 QJ h];exact⟨rfl,.inl rfl⟩
 ·rw[dN A [] h0 h hA,h2]
  exact⟨rfl,.inr rfl⟩
def VF(S:SS):Bool:=decide (S.mode=0)&&decide (S.part=CZ)&&!S.over
theorem FB{S:SS}(h:VF S=true):S.mode=0/\S.part=CZ/\S.over=false:=by simpa[VF,and_assoc]using h
theorem dP{f r o s wt k:Int}(h:(YV f r o s wt k).how≠3):32<=k/\k≠127:=by
 by_cases hk:k<32\/k=127
 ·exfalso;apply h;unfold YV;rw[if_pos hk];rfl
 ·omega
theorem Pf{k:Int}(h:(YV 0 0 0 0 0 k).how≠3):0<=k/\k<128:=by
 refine⟨by have:=dP h;omega,?_⟩;by_cases hk:k<128
 ·exact hk
 ·exfalso
  apply h;have hz:Jw 0 0 0 0 k=0:=by
   unfold Jw;rw[if_neg (by simp[Ml];omega),if_neg (by simp[Rq];omega),if_neg (by simp[moB];omega),if_neg (by simp[zA];omega),if_neg (by simp[vB];omega),if_neg QJ,if_neg QQ,if_neg QQ,if_neg (by simp[plB];omega)]
  unfold YV;rw[if_neg QQ,if_neg QJ,hz];rfl
def af(S T:SS):Prop:=T={S with part:=T.part,off:=T.off,Yv:=T.Yv,row:=T.row,rat:=T.rat}
theorem af.trans{S T U:SS}(h:af S T)(g:af T U):af S U:=by
 unfold af at *;rw[h]at g;exact g
theorem af.show(S:SS)(p:C5):af S ({S with part:=p}:SS).show:=rfl
theorem yF{W:World}{S:SS}{k:Int}(hm:S.mode=0)(ho:S.over=false)(h:(S.JS k).how≠3):
  S.step W k=(if(S.JS k).how=2 then({S with part:=(S.JS k).part}:SS).command W (S.JS k).cmd else {S with part:=(S.JS k).part}).show:=by
 obtain⟨h1,h2⟩:=dP h;unfold SS.step;rw[if_neg QE4];unfold SS.key;rw[if_neg QQ,if_neg QQ,if_neg QQ,if_neg QQ,if_neg QQ];dsimp only;rw[if_neg h]
theorem LF{W:World}:∀(K:List Int) {S:SS} {p:C5},S.mode=0->S.over=false->Fg S.part K=some p->af S (S.keys W K)/\(S.keys W K).part=p
 | [],S,p,hm,ho,h=>⟨rfl,by show S.part=p;simpa[Fg]using h⟩
 | k::K,S,p,hm,ho,h=>by
  unfold Fg at h;by_cases hk:(YV S.part.a S.part.b S.part.c S.part.d S.part.e k).how=1
  ·rw[if_pos hk]at h
   have e:S.step W k=({S with part:=(S.JS k).part}:SS).show:=by
    rw[yF hm ho (by unfold SS.JS;rw[hk];decide),if_neg (by unfold SS.JS;rw[hk];decide)]
   have hs:S.keys W (k::K)=(S.step W k).keys W K:=rfl;obtain⟨g1,g2⟩:=LF (W:=W) K (S:=S.step W k) (p:=p) (by rw[e];exact hm) (by rw[e];exact ho) (by rw[e];exact h);rw[hs];exact⟨af.trans (by rw[e];exact af.show S _) g1,g2⟩
  ·rw[if_neg hk]at h;cases h
def Gr(c:C5):Bool:=decide (c.c≠121)&&(decide (c.c≠0) || [120,88,115,83,67,68,112,80,126,114,105,73,97,65,82].contains c.d)
theorem QQm{W:World}{S:SS}{c:C5}(h:Gr c=true)(ho:c.c=0\/c.c=100\/c.c=99\/c.c=121):S.command W c=(S.Kz W c).1/\kH c=true:=by
 unfold Gr at h;rw[Bool.and_eq_true,Bool.or_eq_true]at h;have h1:c.c≠121:=by simpa using h.1
 by_cases h0:c.c=0
 ·have h2:[120,88,115,83,67,68,112,80,126,114,105,73,97,65,82].contains c.d=true:=by simpa[h0]using h.2
  have h3:c.d=120\/c.d=88\/c.d=115\/c.d=83\/c.d=67\/c.d=68\/c.d=112\/c.d=80\/c.d=126\/c.d=114\/c.d=105\/c.d=73\/c.d=97\/c.d=65\/c.d=82:=QEZ;constructor
  ·unfold SS.command
   rw[if_neg QQ,if_neg QQ,if_neg QQ,if_neg QQ,if_neg QQ,if_neg QQ,if_neg QQ,if_neg QQ,if_neg QQ]
  ·unfold kH
   rw[if_neg QQ,if_neg QQ,h2]
 ·constructor
  ·unfold SS.command
   rw[if_pos h0]
  ·unfold kH
   rw[if_pos QQ]
theorem QJP{W:World}{S:SS}{c:C5}(hg:kH c=true):(S.Kz W c).1.over=S.over/\(((S.Kz W c).1.told=S.told/\(S.Kz W c).1.past=S.save.past/\(S.Kz W c).1.pend=S.pend)\/(S.Kz W c).1.told=S.told++[(1,[])]):=by
 unfold SS.Kz;by_cases c1:(S.vG W c).1≠0
 ·rw[if_pos c1]
  exact⟨rfl,.inr rfl⟩
 ·rw[if_neg c1]
  dsimp only;rw[if_pos hg];split<;>exact⟨rfl,.inl ⟨rfl,rfl,rfl⟩⟩
theorem QQe{f r o s wt key:Int}(h:(YV f r o s wt key).how=2):(YV f r o s wt key).cc.c=o:=by
 unfold YV at h ⊢;by_cases hk:key<32\/key=127
 ·rw[if_pos hk]at h;exact absurd h QZ
 ·rw[if_neg hk]at h ⊢
  unfold VW at h ⊢
  revert h
  repeat' split
  all_goals first
   | (intro h;rfl)
   | (intro h;exact absurd h (by simp[TK.more]))
   | (intro h;exact absurd h QZ)
theorem xF(c:C5):(Xu c).length<=8:=by
 have h1:(Gp c.a).length<=3:=by
  unfold Gp
  repeat' split
  all_goals simp
 unfold Xu;simp only[ZN];have h2:((if c.b≠0 then[34,c.b]else[]):List Int).length<=2:=by split<;>simp
 have h3:((if c.c≠0 then[c.c]else[]):List Int).length<=1:=by split<;>simp
 have h4:((if jH c=true then[c.e]else[]):List Int).length<=1:=by split<;>simp
 simp only[Xq,List.length_nil];omega
theorem M5{c:C5}(h:xQ c=true):∃a l,Xu c=a::l/\0<=a/\a<128:=by
 obtain⟨K,k,p,e,h1,h2,h3,h4⟩:=vT h;cases K with
 | nil=>
  simp only[Fg,ZL]at h1;subst h1;obtain⟨g1,g2⟩:=Pf (k:=k) (by show(YV Vz.a Vz.b Vz.c Vz.d Vz.e k).how≠3;rw[h3];decide);exact⟨k,[],e,g1,g2⟩
 | cons a K=>
  unfold Fg at h1;by_cases hk:(YV Vz.a Vz.b Vz.c Vz.d Vz.e a).how=1
  ·obtain⟨g1,g2⟩:=Pf (k:=a) (by show(YV Vz.a Vz.b Vz.c Vz.d Vz.e a).how≠3;rw[hk];decide)
   exact⟨a,K++[k],e,g1,g2⟩
  ·rw[if_neg hk]at h1;cases h1
theorem zB{W:World}{S:SS}{b:ByteArray}(ho:S.over=false)(hb:b.size<=4096):S.feed W b=(({S with pend:=zJ (JU (S.pend++b)).ah,told:=[],Yv:=[]}:SS).keys W (JU (S.pend++b)).out,0):=by
 unfold SS.feed;rw[if_neg QE4,if_neg QQ]
theorem mr:YV 0 0 0 0 0 65533=TK.wrong:=QZ
theorem eO{W:World}{n:Nat}{S:SS}{K:List Int}{k:Int}{p c:C5}(hI:Xz n S)(hm:S.mode=0)(ho:S.over=false)(h1:Fg S.part K=some p)(h2:p.ok)(h3:(YV p.a p.b p.c p.d p.e k).how=2)(h4:(YV p.a p.b p.c p.d p.e k).cc=c):
  ∃T,af S T/\T.part=CZ/\S.keys W (K++[k])=(T.command W c).show/\Xz (n+K.length) T:=by
 obtain⟨g1,g2⟩:=LF (W:=W) K hm ho h1;rw[zg];have hq:(S.keys W K).JS k=YV p.a p.b p.c p.d p.e k:=by unfold SS.JS;rw[g2]
 have g1':af S (S.keys W K):=g1;have hI2:=Xz.keys (W:=W) K hI;generalize S.keys W K=T at *;have hm2:T.mode=0:=by rw[g1];exact hm
 have ho2:T.over=false:=by rw[g1];exact ho
 have hpt:(T.JS k).part=CZ:=by rw[hq];exact(ED h3).1
 refine⟨{T with part:=(T.JS k).part},af.trans g1' rfl,hpt,?_,{hI2 with pt:=by dsimp only;rw[hpt];exact Ap}⟩
 ·rw[yF hm2 ho2 (by rw[hq,h3];decide),if_pos (by rw[hq];exact h3)]
  have:(T.JS k).cmd=c:=by rw[hq];exact h4
  rw[this]
structure Chd (S T:SS):Prop where
 past:T.past=S.save.past
 pend:T.pend=⟨#[]⟩
theorem mD{W:World}{K:Nat}{S:SS}{c:C5}(hI:Xz K S)(hm:S.mode=0)(hp:S.part=CZ)(ho:S.over=false)(hw:xQ c=true)(hc:Km c)(hch:Gr c=true):
  (S.keys W (Xu c)).over=false/\((S.keys W (Xu c)).mode=0\/(S.keys W (Xu c)).mode=1\/(S.keys W (Xu c)).mode=2)/\(((S.keys W (Xu c)).told=S.told/\(S.keys W (Xu c)).past=S.save.past/\(S.keys W (Xu c)).pend=S.pend)\/(S.keys W (Xu c)).told=S.told++[(1,[])]):=by
 obtain⟨Kk,k,p,e,h1,h2,h3,h4⟩:=vT hw;obtain⟨T,t1,t2,t3,hIT⟩:=eO (W:=W) (S:=S) hI hm ho (by rw[hp];exact h1) h2 h3 h4;have hcc:c.c=0\/c.c=100\/c.c=99\/c.c=121:=by
  rw[<-h4,QQe h3];exact(Jb h2).2.2.2.2
 obtain⟨c1,c2⟩:=QQm (W:=W) (S:=T) hch hcc;have hmT:T.mode=0:=by rw[t1];exact hm
 have q3:=(hIT.Kz (W:=W) hmT c hc).2.1;obtain⟨q1,q2⟩:=QJP (W:=W) (S:=T) c2;have e1:T.over=S.over:=by rw[t1]
 have e2:T.told=S.told:=by rw[t1]
 have e3:T.save.past=S.save.past:=by rw[t1];rfl
 have e4:T.pend=S.pend:=by rw[t1]
 rw[e1,ho]at q1;rw[e2,e3,e4]at q2;rw[e,t3,c1];exact⟨q1,q3,q2⟩
theorem EE{W:World}{K:Nat}{S:SS}{c:C5}(hI:Xz K S)(hP:yJ S.pend)(hq:VF S=true)(hw:xQ c=true)(hok:qF (Xu c)=true)(hc:Km c)(hch:Gr c=true):
  (S.feed W (runesBytes (Xu c))).2=0/\(S.feed W (runesBytes (Xu c))).1.over=false/\((S.feed W (runesBytes (Xu c))).1.mode=0\/(S.feed W (runesBytes (Xu c))).1.mode=1\/(S.feed W (runesBytes (Xu c))).1.mode=2)/\((S.feed W (runesBytes (Xu c))).1.told=[]->Chd S (S.feed W (runesBytes (Xu c))).1):=by
 obtain⟨hm,hp,ho⟩:=FB hq;obtain⟨a,l,e2,a0,a1⟩:=M5 hw;have hsz:(runesBytes (Xu c)).size<=4096:=by
  have:=runesBytes_size_le (Xu c);have:=xF c;omega
 have hl:qF l=true:=by
  rw[e2]at hok;simp[qF]at hok ⊢;exact hok.2
 obtain⟨r1,r2⟩:=eH hP a0 a1 hl;rw[<-e2]at r1 r2;rw[zB ho hsz,r1];refine⟨rfl,?_⟩;dsimp only;obtain⟨S0,hS0⟩:∃S0:SS,S0={S with pend:=zJ [],told:=[],Yv:=[]}:=⟨_,rfl⟩;have hI0:Xz K S0:=QFJ;have hm0:S0.mode=0:=by rw[hS0];exact hm
 have ho0:S0.over=false:=by rw[hS0];exact ho
 have hp0:S0.part=CZ:=by rw[hS0];exact hp
 have ht0:S0.told=[]:=QDS;have hd0:S0.pend=zJ []:=QDS;have hs0:S0.save.past=S.save.past:=by rw[hS0];rfl
 rw[<-hS0];clear hS0;rcases r2 with r2|r2
 ·rw[r2]
  obtain⟨q1,q2,q3⟩:=mD (W:=W) hI0 hm0 hp0 ho0 hw hc hch;refine⟨q1,q2,fun ht=>?_⟩;rcases q3 with⟨-,q4,q5⟩|q3
  ·exact⟨q4.trans hs0,q5.trans hd0⟩
  ·rw[q3]at ht;simp at ht
 ·rw[r2]
  have hs:S0.keys W (65533::Xu c)=(S0.step W 65533).keys W (Xu c):=rfl;have hb:(S0.step W 65533).told=[(1,[])]/\(S0.step W 65533).over=false/\(S0.step W 65533).mode=0/\(S0.step W 65533).part=CZ:=by
   unfold SS.step;rw[if_neg (by rw[ho0];decide)];unfold SS.key;have ht:S0.JS 65533=TK.wrong:=by unfold SS.JS;rw[hp0];exact mr
   rw[if_neg QQ,if_neg QQ,if_neg QQ,if_neg QQ,if_neg QQ];dsimp only;rw[ht,if_neg QZ,if_pos QDu];refine⟨?_,ho0,hm0,rfl⟩;show S0.told++[(1,[])]=_;rw[ht0];rfl
  rw[hs];obtain⟨q1,q2,q3⟩:=mD (W:=W) (hI0.step (W:=W) 65533) hb.2.2.1 hb.2.2.2 hb.2.1 hw hc hch;refine⟨q1,q2,fun ht=>?_⟩;rcases q3 with⟨q3,-⟩|q3
  ·rw[q3,hb.1]at ht;cases ht
  ·rw[q3,hb.1]at ht;simp at ht
def Nj(c:Int):Bool:=c==8 || (!decide (c<32)&&c !=127)
theorem dC{W:World}{S:SS}{c:Int}(hm:S.mode=1\/S.mode=2)(ho:S.over=false)(h:Nj c=true):(S.step W c).past=S.past/\(S.step W c).pend=S.pend/\(S.step W c).mode=S.mode/\(S.step W c).over=false:=by
 have hc:c=8\/(32<=c/\c≠127):=by simpa[Nj]using h
 unfold SS.step;rw[if_neg QE4];unfold SS.key;rw[if_neg QQ,if_neg QQ,if_neg QQ,if_neg QQ,if_pos QQ];unfold SS.typed;rw[if_neg QQ];split<;>exact⟨rfl,rfl,rfl,ho⟩
theorem PR{W:World}:∀(l:List Int) {S:SS},(S.mode=1\/S.mode=2)->S.over=false->l.all Nj=true->(S.keys W l).past=S.past/\(S.keys W l).pend=S.pend/\(S.keys W l).mode=S.mode/\(S.keys W l).over=false
 | [],S,hm,ho,h=>⟨rfl,rfl,rfl,ho⟩
 | c::l,S,hm,ho,h=>by
  rw[List.all_cons,Bool.and_eq_true]at h;obtain⟨g1,g2,g3,g4⟩:=dC (W:=W) hm ho h.1;obtain⟨i1,i2,i3,i4⟩:=PR (W:=W) l (S:=S.step W c) (by rw[g3];exact hm) g4 h.2;have hs:S.keys W (c::l)=(S.step W c).keys W l:=rfl;rw[hs];exact⟨i1.trans g1,i2.trans g2,i3.trans g3,i4⟩
theorem P7{l:List Int}(h:qF l=true):(JU (⟨#[]⟩++runesBytes l)).out=l/\(JU (⟨#[]⟩++runesBytes l)).ah=[]:=by
 have e0:(⟨#[]⟩:ByteArray)++runesBytes l=runesBytes l:=ByteArray.empty_append;rw[e0];unfold JU VE;rw[run_text _ l [] rfl h];exact⟨rfl,rfl⟩
theorem Sn(l:List Int):runesBytes l++⟨#[27]⟩=runesBytes (l++[27]):=by
 rw[Uv];exact XD _ (enc1 (c:=27) QZ QZ).symm
theorem Oo{W:World}{S T:SS}{l:List Int}(hm:T.mode=1\/T.mode=2)(ho:T.over=false)(hC:Chd S T)(hl:qF l=true)(ht:l.all Nj=true)(hs:(runesBytes l++(⟨#[27]⟩:ByteArray)).size<=4096):
  (T.feed W (runesBytes l++⟨#[27]⟩)).2=0/\Chd S (T.feed W (runesBytes l++⟨#[27]⟩)).1:=by
 have h2:qF (l++[27])=true:=by rw[vU,hl];rfl
 obtain⟨r1,r2⟩:=P7 h2;rw[zB ho hs,hC.pend,Sn,r1,r2,zg];refine⟨rfl,?_⟩;obtain⟨g1,g2,g3,g4⟩:=PR (W:=W) l (S:=({T with pend:=zJ [],told:=[],Yv:=[]}:SS)) hm ho ht;generalize({T with pend:=zJ [],told:=[],Yv:=[]}:SS).keys W l=U at *;have g3':U.mode=1\/U.mode=2:=by rw[g3];exact hm
 have e:U.step W 27=U.leave.show:=by
  unfold SS.step;rw[if_neg (by rw[g4];decide)];unfold SS.key;rw[if_neg QZ,if_neg QQ,if_neg QZ,if_neg QZ,if_pos QQ];rfl
 dsimp only;rw[e];exact⟨g1.trans hC.past,g2⟩
theorem IL:YV 0 0 0 0 0 117=⟨0,0,0,0,0,0,0,0,117,0,2⟩:=QZ
theorem D5(S:SS):S.save.past=S.past.drop (S.past.length+1-30)++[(S.text,S.pos)]:=by
 show(S.past++[(S.text,S.pos)]).drop (S.past.length+1-30)=_
 rw[List.drop_append_of_le_length QQ]
theorem dB{W:World}{T:SS}{P:List (List Int×Int)}{t:List Int}{p:Int}(hq:VF T=true)(hd:T.pend=⟨#[]⟩)(hp:T.past=P++[(t,p)]):
  (T.feed W ⟨#[117]⟩).2=0/\(T.feed W ⟨#[117]⟩).1.told=[]/\(T.feed W ⟨#[117]⟩).1.text=t/\(T.feed W ⟨#[117]⟩).1.pos=p/\(T.feed W ⟨#[117]⟩).1.past=P/\(T.feed W ⟨#[117]⟩).1.pend=⟨#[]⟩/\VF (T.feed W ⟨#[117]⟩).1=true:=by
 obtain⟨hm,hpt,ho⟩:=FB hq;have hr:(JU (⟨#[]⟩++⟨#[117]⟩)).out=[117]/\(JU (⟨#[]⟩++⟨#[117]⟩)).ah=[]:=by constructor<;>kernel_rfl
 rw[zB ho (by show(1:Nat)<=4096;omega),hd,hr.1,hr.2];obtain⟨S0,hS0⟩:∃S0:SS,S0={T with pend:=zJ [],told:=[],Yv:=[]}:=⟨_,rfl⟩;have hm0:S0.mode=0:=by rw[hS0];exact hm
 have ho0:S0.over=false:=by rw[hS0];exact ho
 have hp0:S0.part=CZ:=by rw[hS0];exact hpt
 have ht0:S0.told=[]:=QDS;have hd0:S0.pend=zJ []:=QDS;have hs0:S0.past=P++[(t,p)]:=by rw[hS0];exact hp
 dsimp only;rw[<-hS0];clear hS0;have htk:S0.JS 117=⟨0,0,0,0,0,0,0,0,117,0,2⟩:=by unfold SS.JS;rw[hp0];exact IL
 have e:S0.keys W [117]=({S0 with part:=CZ,text:=t,pos:=p,past:=P}:SS).show:=by
  show S0.step W 117=_;rw[yF hm0 ho0 (by rw[htk];decide),htk,if_pos rfl];unfold SS.command;rw[if_neg QZ,if_pos QDu];unfold SS.back;rw[if_neg (by show¬S0.past.length=0;rw[hs0];simp)];dsimp only;rw[hs0,List.getLast?_append,List.dropLast_concat];rfl
 rw[e];refine⟨rfl,ht0,rfl,rfl,rfl,hd0,?_⟩
 show(decide (S0.mode=0)&&decide (CZ=CZ)&&!S0.over)=true
 rw[hm0,ho0];rfl
theorem Pb(a1 a2:Option Addr)(n1 n2 c1 c2:Nat)(xs:List Int)(p:Int)(w:World)(h1:Ints w a1 xs)(h2:Ints w a2 xs)(e1:xs.length=n1)(e2:xs.length=n2)(hx:n1<=9223372036854775807):
  Calls Tryz.prog 19 #[.agg #[.slice a1 n1 c1,.int .i64 p],.agg #[.slice a2 n2 c2,.int .i64 p]] w fun e w'=>e=.returned (.bool true)/\Below w.heap.size w w':=by
 have E1:=Zy e1;have E2:=Zy e2;clear e1 e2;have hb2:=Zo w (.cells #[.slice a1 n1 c1,.int .i64 p] 42) (.cells #[.slice a2 n2 c2,.int .i64 p] 42);have h1:=h1.below hb2;have h2:=h2.below hb2;go_enter Tryz.func19,Tryz.ntmps19
 go_wp2_with fail
 refine(uY a1 a2 n1 n2 c1 c2 xs _ h1 h2 E1.out E2.out hx).mono ?_;rintro e w' ⟨rfl,nd,rfl⟩;go_wp2;go_ret;exact⟨rfl,below_drewN hb2 _⟩
theorem QYD{S:SS}{v r lv:Value}{rr:List Value}{n:Nat}{wh:Int}(hr:rr.length=27)(k:Nat):vx (y8 S v r lv rr n wh) (37+k)=vx (lkC S r lv n wh) k:=by
 unfold vx y8;have h:(LH S v++rr).length=37:=by simp[LH,hr]
 rw[Zg,XV QQ,h,Nat.add_sub_cancel_left,<-Zg]
structure LkB (w:World) (R:Nat) (S:SS) (v r lv:Value) (rr:List Value) (n:Nat) (wh:Int):Prop where
 c0:w.cell? ⟨R,0,none⟩=some v
 c1:w.cell? ⟨R,1,none⟩=some (.int .i64 S.pos)
 c2:w.cell? ⟨R,2,none⟩=some (.int .i64 S.mode)
 c3:w.cell? ⟨R,3,none⟩=some (.int .i64 S.part.a)
 c4:w.cell? ⟨R,4,none⟩=some (.int .i64 S.part.b)
 c5:w.cell? ⟨R,5,none⟩=some (.int .i64 S.part.c)
 c6:w.cell? ⟨R,6,none⟩=some (.int .i64 S.part.d)
 c7:w.cell? ⟨R,7,none⟩=some (.int .i64 S.part.e)
 c8:w.cell? ⟨R,8,none⟩=some (.int .i64 S.fk)
 c9:w.cell? ⟨R,9,none⟩=some (.int .i64 S.fa)
 rg:w.rangeAt R 10 rr
 c37:w.cell? ⟨R,37,none⟩=some (.int .i64 (n:Int))
 c38:w.cell? ⟨R,38,none⟩=some lv
 c39:w.cell? ⟨R,39,none⟩=some (.int .i64 wh)
 c40:w.cell? ⟨R,40,none⟩=some (.bool S.over)
 c41:w.cell? ⟨R,41,none⟩=some r
 c42:w.cell? ⟨R,42,none⟩=some (.int .i64 S.rat)
 oM:w.cell? ⟨R,43,none⟩=some (.int .i64 S.off)
theorem LkB.of{w:World}{R:Nat}{S:SS}{v r lv:Value}{rr:List Value}{n:Nat}{wh:Int}{rs:List Value}(h:XG w R rs 53)(he:rs=y8 S v r lv rr n wh)(hr:rr.length=27):LkB w R S v r lv rr n wh:=by
 subst he;have hl:=VY (S:=S) (v:=v) (r:=r) (lv:=lv) (n:=n) (wh:=wh) hr;have hc:∀k,k<7->w.cell? ⟨R,37+k,none⟩=some (vx (lkC S r lv n wh) k):=fun k hk=>by rw[h.cell QQ,QYD hr]
 exact {
  c0:=h.cell (i:=0) QQ,c1:=h.cell (i:=1) QQ,c2:=h.cell (i:=2) QQ,c3:=h.cell (i:=3) QQ,c4:=h.cell (i:=4) QQ,c5:=h.cell (i:=5) QQ,c6:=h.cell (i:=6) QQ,c7:=h.cell (i:=7) QQ,c8:=h.cell (i:=8) QQ,c9:=h.cell (i:=9) QQ
  rg:=fun j x hj=>by
   have hlt:j<rr.length:=by
    rcases Z9 j rr.length with h|h
    ·exact h
    ·rw[List.getElem?_eq_none h]at hj;cases hj
   rw[h.cell QQ,iQ hr QQ,VB hlt];rw[Z8 hlt]at hj;exact hj
  c37:=hc 0 QQ,c38:=hc 1 QQ,c39:=hc 2 QQ,c40:=hc 3 QQ,c41:=hc 4 QQ,c42:=hc 5 QQ,oM:=hc 6 QQ}
def nu(s:zt)(w:World)(e:Ending)(w':World):Prop:=
 ∃v,e=.returned (.tuple #[v,.agg #[.int .i64 s.p.a,.int .i64 s.p.b,.int .i64 s.p.c,.int .i64 s.p.d,.int .i64 s.p.e],.int .i64 s.n])/\KY w.heap.size w' v s.out/\Below w.heap.size w w'
theorem Dm(w:World)(u v:Array Value)(e f:TypeId):Za ((w.alloc (.cells u e)).alloc (.cells v f)) w.heap.size u e/\Za ((w.alloc (.cells u e)).alloc (.cells v f)) (w.heap.size+1) v f/\Below w.heap.size w ((w.alloc (.cells u e)).alloc (.cells v f)):=by
 exact QI1
theorem Za.gz{w:World}{B C:Nat}{cs:Array Value}{e:TypeId}(h:Za w C cs e)(hne:C≠B)(u0 u1 u2 u3 u4:Value):
  Za (((((w.setCell ⟨B,0,none⟩ u0).setCell ⟨B,1,none⟩ u1).setCell ⟨B,2,none⟩ u2).setCell ⟨B,3,none⟩ u3).setCell ⟨B,4,none⟩ u4) C cs e:=
 ((((h.other (a:=⟨B,0,none⟩) hne u0).other (a:=⟨B,1,none⟩) hne u1).other (a:=⟨B,2,none⟩) hne u2).other (a:=⟨B,3,none⟩) hne u3).other (a:=⟨B,4,none⟩) hne u4
theorem KY.setCell{base:Nat}{w:World}{v:Value}{es:List C5}(h:KY base w v es){a:Addr}(ha:a.block<base)(u:Value):KY base (w.setCell a u) v es:=ownsRow_setCell_below h ha u
theorem KY.xX{base B:Nat}{w:World}{v:Value}{es:List C5}(h:KY base w v es)(ha:B<base)(u0 u1 u2 u3 u4:Value):
  KY base (((((w.setCell ⟨B,0,none⟩ u0).setCell ⟨B,1,none⟩ u1).setCell ⟨B,2,none⟩ u2).setCell ⟨B,3,none⟩ u3).setCell ⟨B,4,none⟩ u4) v es:=
 ((((h.setCell (a:=⟨B,0,none⟩) ha u0).setCell (a:=⟨B,1,none⟩) ha u1).setCell (a:=⟨B,2,none⟩) ha u2).setCell (a:=⟨B,3,none⟩) ha u3).setCell (a:=⟨B,4,none⟩) ha u4
theorem iY(a:Option Addr)(n c:Nat)(xs:List Int)(w:World)(hx:Ints w a xs)(hn:xs.length=n)(hl:n<=1048576):
  Calls Tryz.prog 37 #[.slice a n c] w (nu (Vh xs) w):=by
 have HN:=Zy hn;clear hn;obtain⟨hR,hP,hb0⟩:=Dm w #[.int .i64 0,.int .i64 0,.int .i64 0,.int .i64 0,.int .i64 0] #[.int .i64 0,.int .i64 0,.int .i64 0,.int .i64 0,.int .i64 0] 44 44;go_enter Tryz.func37,Tryz.ntmps37
 go_upto_region 5 with fail
 generalize((w.alloc (.cells #[.int .i64 0,.int .i64 0,.int .i64 0,.int .i64 0,.int .i64 0] 44)).alloc (.cells #[.int .i64 0,.int .i64 0,.int .i64 0,.int .i64 0,.int .i64 0] 44))=w1 at *
 go_loopw [16,5,7] (fun i v nn wr=>∃k:Nat,i=.int .i64 (k:Int)/\k<=n/\nn=.int .i64 (Vh (xs.take k)).n/\KY (w.heap.size+2) wr v (Vh (xs.take k)).out/\Za wr (w.heap.size+1) #[.int .i64 (Vh (xs.take k)).p.a,.int .i64 (Vh (xs.take k)).p.b,.int .i64 (Vh (xs.take k)).p.c,.int .i64 (Vh (xs.take k)).p.d,.int .i64 (Vh (xs.take k)).p.e] 44/\Za wr w.heap.size #[.int .i64 0,.int .i64 0,.int .i64 0,.int .i64 0,.int .i64 0] 44/\Below w.heap.size w wr) (fun i _ _ _=>n-(intOf i).toNat)
 case atStart=>exact⟨0,rfl,QQ,rfl,KY.nil _ _,hP,hR,hb0⟩
 case round=>
  obtain⟨k,rfl,hk,rfl,hown,hP,hR,hb⟩:=hrel;have hgood:=FK (l:=xs) (k:=k) QDr;by_cases hlt:k<n
  ·have HS:=Zy (di (l:=xs) (k:=k) QW)
   obtain⟨bb,oo,rfl,hc1⟩:=(hx.below hb).at (k:=k) QW;have e1:=hc1 k QW;have HX:=Zy hx;clear hc1 hx;generalize Vh (xs.take k)=s at *;generalize hkey:ix xs k=key at *;obtain⟨out,⟨f,r,o,sc,wt⟩,nn⟩:=s;simp only at hown hP hgood;obtain⟨g1,g2,g3,g4⟩:=hgood;simp only at g2 g3 g4;have G1:=Zy (show Yl f r o sc wt=0 from g1);have HS2:=Zy (show Vh (xs.take (k+1))=⟨if(YV f r o sc wt key).how=2 then out++[(YV f r o sc wt key).cc]else out,(YV f r o sc wt key).qc,if(YV f r o sc wt key).how=3 then nn+1 else nn⟩from HS.out);have HH:=Zy (vY f r o sc wt key);obtain⟨c0,c1,c2,c3,c4⟩:=hP.five;have i1:(k:Int)<(n:Int):=QQ;clear g1 HS;go_wp2_with fail
   refine(EW f r o sc wt key _ G1.out).mono ?_;rintro e w3 ⟨rfl,hb3⟩;have hP:=hP.below hb3 hP.lt;have hR:=hR.below hb3 hR.lt;have hown:=hown.kept hb3;have hacc:=ZE hb hb.size hb3;have hzP:=hP.lt;clear c0 c1 c2 c3 c4 hb3;generalize YV f r o sc wt key=t at *;obtain⟨q0,q1,q2,q3,q4,d0,d1,d2,d3,d4,how⟩:=t;simp only at HS2 HH;obtain⟨hQ,hC,hbn⟩:=Dm w3 #[.int .i64 q0,.int .i64 q1,.int .i64 q2,.int .i64 q3,.int .i64 q4] #[.int .i64 d0,.int .i64 d1,.int .i64 d2,.int .i64 d3,.int .i64 d4] 44 39;have hP:=hP.below hbn hP.lt;have hR:=hR.below hbn hR.lt;have hown:=hown.kept hbn;have hacc:=ZE hacc hacc.size hbn;clear hbn hb;simp only[TK.q,TK.c];go_upto_region 8 with fail
   generalize(w3.alloc (.cells #[.int .i64 q0,.int .i64 q1,.int .i64 q2,.int .i64 q3,.int .i64 q4] 44)).alloc (.cells #[.int .i64 d0,.int .i64 d1,.int .i64 d2,.int .i64 d3,.int .i64 d4] 39)=w4 at *;generalize w3.heap.size=N3 at *;obtain⟨k0,k1,k2,k3,k4⟩:=hQ.five;obtain⟨l0,l1,l2,l3,l4⟩:=hC.five;obtain⟨m0,m1,m2,m3,m4⟩:=hP.five;obtain⟨f0,f1,f2,f3,f4⟩:=hP.Z7;have hP:=hP.xX (.int .i64 q0) (.int .i64 q1) (.int .i64 q2) (.int .i64 q3) (.int .i64 q4);have hR:=hR.gz (B:=w.heap.size+1) QQ (.int .i64 q0) (.int .i64 q1) (.int .i64 q2) (.int .i64 q3) (.int .i64 q4);have hC:=hC.gz (B:=w.heap.size+1) QQ (.int .i64 q0) (.int .i64 q1) (.int .i64 q2) (.int .i64 q3) (.int .i64 q4);have hown:=hown.xX (B:=w.heap.size+1) QQ (.int .i64 q0) (.int .i64 q1) (.int .i64 q2) (.int .i64 q3) (.int .i64 q4);have hacc:=Yg (B:=w.heap.size+1) hacc QQ (x0:=.int .i64 q0) (x1:=.int .i64 q1) (x2:=.int .i64 q2) (x3:=.int .i64 q3) (x4:=.int .i64 q4);clear l0 l1 l2 l3 l4;go_upto_region 9 with fail
   generalize(((((w4.setCell ⟨w.heap.size+1,0,none⟩ (.int .i64 q0)).setCell ⟨w.heap.size+1,1,none⟩ (.int .i64 q1)).setCell ⟨w.heap.size+1,2,none⟩ (.int .i64 q2)).setCell ⟨w.heap.size+1,3,none⟩ (.int .i64 q3)).setCell ⟨w.heap.size+1,4,none⟩ (.int .i64 q4))=w5 at *;obtain⟨l0,l1,l2,l3,l4⟩:=hC.five;rcases HH.out with rfl|rfl|rfl
   ·have E:Vh (xs.take (k+1))=⟨out,⟨q0,q1,q2,q3,q4⟩,nn⟩:=HS2.out
    exact QIJ
   ·have E:Vh (xs.take (k+1))=⟨out++[⟨d0,d1,d2,d3,d4⟩],⟨q0,q1,q2,q3,q4⟩,nn⟩:=HS2.out
    have hb2:w.heap.size+2<=w5.heap.size:=hP.lt;have nP:=hown.XP hP QZ;have nR:=hown.XP hR QZ;have hPA:=hP.alloc (.cells #[.int .i64 d0,.int .i64 d1,.int .i64 d2,.int .i64 d3,.int .i64 d4] 39);have hRA:=hR.alloc (.cells #[.int .i64 d0,.int .i64 d1,.int .i64 d2,.int .i64 d3,.int .i64 d4] 39);have QVa:=hacc.alloc hacc.size (.cells #[.int .i64 d0,.int .i64 d1,.int .i64 d2,.int .i64 d3,.int .i64 d4] 39);have QzK:=(hown.mono (base':=w.heap.size) QQ).row;go_wp2_with (at_builtin;refine QWj rfl _ _ rfl (w.heap.size+2) _ out ⟨d0,d1,d2,d3,d4⟩ _ rfl rfl (hown.alloc _) (Za.new _ _ _) QQ (XJ hb2 _) ?_;intro v6 w6 hown6 Ov)
    go_roundw
    case rel=>exact⟨k+1,Qy,QQ,by rw[E],by rw[E];exact hown6,by rw[E];exact hPA.grown Ov nP,hRA.grown Ov nR,QVa.grown Ov QDV QzK⟩
    case measure=>simp[intOf];omega
   ·have E:Vh (xs.take (k+1))=⟨out,⟨q0,q1,q2,q3,q4⟩,nn+1⟩:=HS2.out
    exact QIJ
  ·obtain rfl:k=n:=by omega
   obtain⟨c0,c1,c2,c3,c4⟩:=hP.five;obtain⟨r0,r1,r2,r3,r4⟩:=hR.five;obtain⟨f0,f1,f2,f3,f4⟩:=hR.Z7;have HT:=Zy (show xs.take k=xs by rw[<-HN.out];exact List.take_length);rw[HT.out]at hown c0 c1 c2 c3 c4;have hG:=hR.xX (.int .i64 (Vh xs).p.a) (.int .i64 (Vh xs).p.b) (.int .i64 (Vh xs).p.c) (.int .i64 (Vh xs).p.d) (.int .i64 (Vh xs).p.e);have QZ5:=(hown.mono (base':=w.heap.size+1) QQ).xX (B:=w.heap.size) QQ (.int .i64 (Vh xs).p.a) (.int .i64 (Vh xs).p.b) (.int .i64 (Vh xs).p.c) (.int .i64 (Vh xs).p.d) (.int .i64 (Vh xs).p.e);have hbF:=Yg (B:=w.heap.size) hb QQ (x0:=.int .i64 (Vh xs).p.a) (x1:=.int .i64 (Vh xs).p.b) (x2:=.int .i64 (Vh xs).p.c) (x3:=.int .i64 (Vh xs).p.d) (x4:=.int .i64 (Vh xs).p.e);have HF:=Zy (show _/\_ from⟨QZ5.mono (base':=w.heap.size) QQ,hbF⟩);obtain⟨y0,y1,y2,y3,y4⟩:=hG.five;clear QZ5 hbF hown hb hG hP hR;go_upto_region 15 with fail
   go_region
   all_goals
    go_wp2;refine ZC (v:=.tuple #[u5,.agg #[.int .i64 (Vh xs).p.a,.int .i64 (Vh xs).p.b,.int .i64 (Vh xs).p.c,.int .i64 (Vh xs).p.d,.int .i64 (Vh xs).p.e],.int .i64 (Vh (xs.take k)).n]) (by simp[results,Tryz.results37,go_sem,y0,y1,y2,y3,y4]) rfl ?_;exact⟨_,by rw[HT.out],HF.out.1.drew,HF.out.2.drew⟩
theorem Np(a b c d g:Int)(w:World):
  Calls Tryz.prog 36 #[.agg #[.int .i64 a,.int .i64 b,.int .i64 c,.int .i64 d,.int .i64 g]] w fun e w'=>e=.returned (.bool (jH ⟨a,b,c,d,g⟩))/\Below w.heap.size w w':=by
 have hA:=Za.new w #[.int .i64 a,.int .i64 b,.int .i64 c,.int .i64 d,.int .i64 g] 39;have hacc:=ZR w (.cells #[.int .i64 a,.int .i64 b,.int .i64 c,.int .i64 d,.int .i64 g] 39);go_enter Tryz.func36,Tryz.ntmps36
 go_upto_region 1 with fail
 generalize w.alloc (.cells #[.int .i64 a,.int .i64 b,.int .i64 c,.int .i64 d,.int .i64 g] 39)=w1 at *;obtain⟨c0,c1,c2,c3,c4⟩:=hA.five;go_wp2
 all_goals
  go_ret;refine⟨Xg ?_,hacc⟩;simp only[beq_iff_eq,XX,bne_iff_ne,bne_eq_false_iff_eq,ne_eq]at *;simp[jH,zA,vB]
  try simp[*]
  try(rw[bne,Qx5])
end Go.Proofs.YtmdnepkekekncaaGreat
