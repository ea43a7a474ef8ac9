/- joined, no condition of its own. -/
import Derived.Test.YtmdcencmiopmmaaGreatJnT
import Derived.Test.YtmdcencmiopmmaaGreatJnJ1
import Derived.Test.YtmdcencmiopmmaaGreatJnJ4
import Derived.Test.YtmdcencmiopmmaaGreatJnJ6
import Derived.Test.YtmdcencmiopmmaaGreatJnJ9
import Derived.Test.YtmdcencmiopmmaaGreatJnJ10
set_option linter.unusedVariables false
set_option linter.unusedSimpArgs false
set_option maxRecDepth 100000
set_option maxHeartbeats 12000000
namespace Go.Proofs.YtmdcencmiopmmaaGreat
open Go.RowKit
theorem BN{l:List Int}{n k:Nat}{r:Int}(h:Jn l n k r)(hk:k<n): -1<=r/\r<n:=by
 unfold Jn at h;split at h
 ·omega
 ·split at h
  ·rcases h with⟨t,h1,_,_,rfl⟩|⟨_,rfl⟩
   ·show-1<=((k-t:Nat):Int)/\((k-t:Nat):Int)<n;omega
   ·omega
  ·rcases h with⟨t,h1,_,_,rfl⟩|⟨_,rfl⟩
   ·show-1<=((k+t:Nat):Int)/\((k+t:Nat):Int)<n;omega
   ·omega
def V9(l ps:List Int)(k:Nat)(o:Int)(i:Nat):Prop:=ix l i=o/\(k:Int)<=ix ps i
def FT(l ps:List Int)(k:Nat)(around:Bool)(o:Int)(w:World)(e:Ending)(w':World):Prop:=
 ((∃i,i<l.length/\i<=k/\V9 l ps k o i/\(∀j,i<j->j<=k->j<l.length->¬V9 l ps k o j)/\
   e=.returned (.tuple #[.agg #[.int .i64 (if around=true then(i:Int)else(i:Int)+1),.int .i64 (if around=true then ix ps i+1 else ix ps i)],.int .i64 0]))\/
  ((∀i,i<l.length->i<=k->¬V9 l ps k o i)/\e=.returned (.tuple #[.agg #[.int .i64 0,.int .i64 0],.int .i64 6])))/\Below w.heap.size w w'
theorem kD(a:Option Addr)(n c:Nat)(l ps:List Int)(hps:(Jr l n n).out=ps)(k:Nat)(around:Bool)(o:Int)(w:World)(ha:Ints w a l)(hn:l.length=n)(h2:n<=4096)(hk:k<=4096):
  Calls Tryz.prog 280 #[.slice a n c,.int .i64 (k:Int),.bool around,.int .i64 o] w (FT l ps k around o w):=by
 have HN:=Zy hn;clear hn;have HPS:=Zy hps;clear hps;have TY:=Zy (fun i (hi:i<n)=>(by rw[<-HPS.out];exact BN (KA l n i hi) hi: -1<=ix ps i/\ix ps i<n));have HPL:=Zy (show ps.length=n by rw[<-HPS.out];exact qI l n n);have hA:=Za.new w #[.int .i64 0,.int .i64 0] 349;have hb:=ZT w (.cells #[.int .i64 0,.int .i64 0] 349);go_enter Tryz.func280,Tryz.ntmps280
 go_wp2_with fail
 refine(Af a n c l _ (ha.below hb) HN.out h2).mono ?_;rintro e w2 ⟨g,rfl,hI,hb2⟩;have hA2:=hA.below hb2 hA.lt;have hbb:=ZE hb hb.size hb2;have ha2:=ha.below hbb;clear hA hb hb2;rw[HPS.out]at hI;obtain⟨d0,d1,f0,f1⟩:=hA2.two;have hcell:∀i,i<n->w2.cell? ⟨g,i,none⟩=some (.int .i64 (ix ps i)):=fun i hi=>by
  obtain⟨b4,o4,hb4,hc4⟩:=hI.at (k:=i) (by rw[HPL.out];exact hi);simp only[ZM,YB]at hb4;obtain⟨rfl,rfl,-⟩:=hb4;have:=hc4 i (by rw[HPL.out];exact hi)
  rwa[XN]at this
 have HCL:=Zy hcell;clear hcell hI;go_wp2
 all_goals
  go_loopw [12] (fun v wr=>∃j:Nat,v=.int .i64 ((j:Int)-1)/\j<=n/\j<=k+1/\(∀i,j<=i->i<=k->i<n->¬V9 l ps k o i)/\w2=wr) (fun v _=>(intOf v+1).toNat)
  case atStart=>
   first
   | exact⟨k+1,Qk,QQ,QQ,fun i h1 h2 h3=>QQ,rfl⟩
   | exact⟨n,Qk,QQ,QQ,fun i h1 h2 h3=>QQ,rfl⟩
  case round=>
   obtain⟨j,rfl,hj,hjk,hno,rfl⟩:=hrel;have Kj:=Zy hno;clear hno;by_cases hj0:j=0
   ·subst hj0
    go_wp2;obtain⟨z0,z1,-,-⟩:=Za.two ((hA2.set 0 (.int .i64 0)).set 1 (.int .i64 0));refine ZC (v:=.tuple #[.agg #[.int .i64 0,.int .i64 0],.int .i64 6]) QAO rfl ?_;exact⟨.inr ⟨fun i h1 h2=>Kj.out i QQ h2 (by rw[HN.out]at h1;exact h1),rfl⟩,(hbb.setCell (p:=⟨w.heap.size,0,none⟩) (ZB _) _).setCell (p:=⟨w.heap.size,1,none⟩) (ZB _) _⟩
   ·obtain⟨i,rfl⟩:∃i,j=i+1:=⟨j-1,QQ⟩
    have hin:i<n:=QQ;obtain⟨b1,o1,rfl,hc0⟩:=ha2.at (k:=i) QAu;have ck:=hc0 i QAu;have cp:=HCL.out i hin;obtain⟨hr0,hr1⟩:=TY.out i hin;have ij:((i+1:Nat):Int)-1=(i:Int):=QQ;have ii:(i:Int)<(n:Int):=QQ;rw[ij];clear hc0;by_cases hq:ix l i=o
    ·have g1:(ix l i==o)=true:=by simpa using hq
     by_cases hp:(k:Int)<=ix ps i
     ·have HF:=Zy (show V9 l ps k o i from⟨hq,hp⟩)
      clear hq
      first
      | (exfalso;omega)
      | (
       rcases around with _|_
       ·go_wp2
        obtain⟨z0,z1,-,-⟩:=Za.two ((hA2.set 0 (.int .i64 ((i:Int)+1))).set 1 (.int .i64 (ix ps i)));refine ZC (v:=.tuple #[.agg #[.int .i64 ((i:Int)+1),.int .i64 (ix ps i)],.int .i64 0]) QAO rfl ?_;exact⟨.inl ⟨i,QAu,QQ,HF.out,fun j h1 h2 h3=>Kj.out j QQ h2 (by rw[HN.out]at h3;exact h3),rfl⟩,(hbb.setCell (p:=⟨w.heap.size,0,none⟩) (ZB _) _).setCell (p:=⟨w.heap.size,1,none⟩) (ZB _) _⟩
       ·go_wp2
        obtain⟨z0,z1,-,-⟩:=Za.two ((hA2.set 0 (.int .i64 (i:Int))).set 1 (.int .i64 (ix ps i+1)));refine ZC (v:=.tuple #[.agg #[.int .i64 (i:Int),.int .i64 (ix ps i+1)],.int .i64 0]) QAO rfl ?_;exact⟨.inl ⟨i,QAu,QQ,HF.out,fun j h1 h2 h3=>Kj.out j QQ h2 (by rw[HN.out]at h3;exact h3),rfl⟩,(hbb.setCell (p:=⟨w.heap.size,0,none⟩) (ZB _) _).setCell (p:=⟨w.heap.size,1,none⟩) (ZB _) _⟩)
     ·have rQ:=Zy (show¬V9 l ps k o i from fun h=>hp h.2)
      exact QEY
    ·have g1:(ix l i==o)=false:=by simpa using hq
     have rQ:=Zy (show¬V9 l ps k o i from fun h=>hq h.1);exact QEY
end Go.Proofs.YtmdcencmiopmmaaGreat
namespace Go.Proofs.YtmdcencmiopmmaaGreat
def BX(p:List Int)(n k:Nat):Prop:=k<n/\∀j,j<k->ix p j=ix p (n-k+j)
def CW(p:List Int)(n k:Nat):Prop:=BX p n k/\∀k',BX p n k'->k'<=k
theorem DV{p:List Int}{n:Nat}(h:0<n):BX p n 0:=⟨h,fun j hj=>QQ⟩
theorem Ho(p:List Int):CW p 1 0:=⟨DV QQ,fun k h=>by have:=h.1;omega⟩
theorem jb{p:List Int}{n k:Nat}(hn:1<=n):BX p (n+1) (k+1)↔BX p n k/\ix p k=ix p n:=by
 constructor
 ·rintro⟨h1,h2⟩
  refine⟨⟨QQ,fun j hj=>?_⟩,?_⟩
  ·have:=h2 j QQ
   rwa[show n+1-(k+1)+j=n-k+j from QQ]at this
  ·have:=h2 k QQ
   rwa[show n+1-(k+1)+k=n from QQ]at this
 ·rintro⟨⟨h1,h2⟩,h3⟩
  refine⟨QQ,fun j hj=>?_⟩;rw[show n+1-(k+1)+j=n-k+j from QQ];by_cases h:j=k
  ·subst h;rw[show n-j+j=n from QQ];exact h3
  ·exact h2 j QQ
theorem DW{p:List Int}{n k k':Nat}(h:BX p n k)(hk:k'<k):BX p n k'↔BX p k k':=by
 exact QEk
def fI(p:List Int)(i k:Nat):Prop:=BX p i k/\∀k',BX p i k'->ix p k'=ix p i->k'<=k
theorem fI.start{p:List Int}{i k:Nat}(h:CW p i k):fI p i k:=⟨h.1,fun k' hk _=>h.2 k' hk⟩
theorem fI.step{p:List Int}{i k b:Nat}(h:fI p i k)(h0:0<k)(hne:ix p k≠ix p i)(hb:CW p k b):fI p i b:=by
 refine⟨(DW h.1 hb.1.1).2 hb.1,fun k' hk' he=>?_⟩;have hle:=h.2 k' hk' he;rcases Z7 k' k with hlt|hge
 ·exact hb.2 k' ((DW h.1 hlt).1 hk')
 ·have:k'=k:=by omega
  subst this;exact absurd he hne
theorem fI.hit{p:List Int}{i k:Nat}(h:fI p i k)(he:ix p k=ix p i)(hi:1<=i):CW p (i+1) (k+1):=by
 refine⟨(jb hi).2 ⟨h.1,he⟩,fun k' hk'=>?_⟩;cases k' with
 | zero=>omega
 | succ m=>
  obtain⟨h1,h2⟩:=(jb hi).1 hk';have:=h.2 m h1 h2;omega
theorem fI.miss{p:List Int}{i:Nat}(h:fI p i 0)(he:ix p 0≠ix p i)(hi:1<=i):CW p (i+1) 0:=by
 refine⟨DV QQ,fun k' hk'=>?_⟩;cases k' with
 | zero=>omega
 | succ m=>
  obtain⟨h1,h2⟩:=(jb hi).1 hk';have h3:=h.2 m h1 h2;have:m=0:=QQ;subst this;exact absurd h2 he
theorem OC{p:List Int}{n i:Nat}(h:i<n):ix (p.take n) i=ix p i:=by simp[ix,h]
theorem OE{p:List Int}{n i:Nat}:ix (p.drop n) i=ix p (n+i):=by simp[ix]
def NL(p s:List Int)(i k:Nat):Prop:=k<=i/\∀j,j<k->ix p j=ix s (i-k+j)
theorem GM(p s:List Int)(i:Nat):NL p s i 0:=⟨QQ,fun j hj=>QQ⟩
theorem ui{p s:List Int}{i k:Nat}:NL p s (i+1) (k+1)↔NL p s i k/\ix p k=ix s i:=by
 constructor
 ·rintro⟨h1,h2⟩
  refine⟨⟨QQ,fun j hj=>?_⟩,?_⟩
  ·have:=h2 j QQ
   rwa[show i+1-(k+1)+j=i-k+j from QQ]at this
  ·have:=h2 k QQ
   rwa[show i+1-(k+1)+k=i from QQ]at this
 ·rintro⟨⟨h1,h2⟩,h3⟩
  refine⟨QQ,fun j hj=>?_⟩;rw[show i+1-(k+1)+j=i-k+j from QQ];by_cases h:j=k
  ·subst h;rw[show i-j+j=i from QQ];exact h3
  ·exact h2 j QQ
theorem xI{p s:List Int}{i k k':Nat}(h:NL p s i k)(hk:k'<k):NL p s i k'↔BX p k k':=by
 exact QEk
def fG(p s:List Int)(m i k:Nat):Prop:=k<m/\NL p s i k/\∀k',k'<m->NL p s i k'->k'<=k
def fH(p s:List Int)(m i k:Nat):Prop:=k<m/\NL p s i k/\∀k',k'<m->NL p s i k'->ix p k'=ix s i->k'<=k
def Top(p s:List Int)(m i k:Nat):Prop:=k<=m/\NL p s i k/\∀k',k'<=m->NL p s i k'->k'<=k
theorem fH.start{p s:List Int}{m i k:Nat}(h:fG p s m i k):fH p s m i k:=⟨h.1,h.2.1,fun k' hk hs _=>h.2.2 k' hk hs⟩
theorem fH.step{p s:List Int}{m i k b:Nat}(h:fH p s m i k)(h0:0<k)(hne:ix p k≠ix s i)(hb:CW p k b):fH p s m i b:=by
 have hbk:=hb.1.1;refine⟨by have:=h.1;omega,(xI h.2.1 hbk).2 hb.1,fun k' hk' hs he=>?_⟩;have hle:=h.2.2 k' hk' hs he;rcases Z7 k' k with hlt|hge
 ·exact hb.2 k' ((xI h.2.1 hlt).1 hs)
 ·have:k'=k:=by omega
  subst this;exact absurd he hne
theorem fH.hit{p s:List Int}{m i k:Nat}(h:fH p s m i k)(he:ix p k=ix s i):Top p s m (i+1) (k+1):=by
 refine⟨h.1,ui.2 ⟨h.2.1,he⟩,fun k' hk' hs=>?_⟩;cases k' with
 | zero=>omega
 | succ j=>
  obtain⟨h1,h2⟩:=ui.1 hs;have:=h.2.2 j QQ h1 h2;omega
theorem fH.miss{p s:List Int}{m i:Nat}(h:fH p s m i 0)(he:ix p 0≠ix s i):Top p s m (i+1) 0:=by
 refine⟨QQ,GM _ _ _,fun k' hk' hs=>?_⟩;cases k' with
 | zero=>omega
 | succ j=>
  obtain⟨h1,h2⟩:=ui.1 hs;have h3:=h.2.2 j QQ h1 h2;have:j=0:=QQ;subst this;exact absurd h2 he
theorem Top.full{p s:List Int}{m i b:Nat}(h:Top p s m i m)(hb:CW p m b):fG p s m i b:=by
 refine⟨hb.1.1,(xI h.2.1 hb.1.1).2 hb.1,fun k' hk' hs=>hb.2 k' ((xI h.2.1 hk').1 hs)⟩
theorem Top.part{p s:List Int}{m i k:Nat}(h:Top p s m i k)(hk:k<m):fG p s m i k/\¬NL p s i m:=
 ⟨⟨hk,h.2.1,fun k' hk' hs=>h.2.2 k' QQ hs⟩,fun hs=>by have:=h.2.2 m (ZB _) hs;omega⟩
theorem P9{p s:List Int}{m:Nat}(hm:0<m):fG p s m 0 0:=⟨hm,GM _ _ _,fun k' _ hs=>hs.1⟩
def KL(p s:List Int)(t:Nat):Bool:=decide (p=(s.drop t).take p.length)
theorem um{p s:List Int}{t:Nat}(ht:t+p.length<=s.length):KL p s t=true↔NL p s (t+p.length) p.length:=by
 unfold KL;rw[XI];constructor
 ·intro h
  refine⟨QQ,fun j hj=>?_⟩;have:ix p j=ix ((s.drop t).take p.length) j:=by rw[<-h]
  rw[OC hj,OE]at this;rw[this];congr 1;omega
 ·rintro⟨_,h⟩
  apply zt QY;intro j hj;rw[OC hj,OE,h j hj];congr 1;omega
def K9(p s:List Int)(n:Nat):List Nat:=(List.range n).filter (KL p s)
theorem xS(p s:List Int)(n:Nat):K9 p s (n+1)=K9 p s n++(if KL p s n=true then[n]else[]):=by
 unfold K9;rw[List.range_succ,List.filter_append];congr 1
 simp[List.filter_cons]
def X5(p s:List Int)(n:Nat):List Int:=(K9 p s n).map fun(t:Nat)=>(t:Int)
theorem WV{p s:List Int}{n:Nat}(h:KL p s n=true):X5 p s (n+1)=X5 p s n++[(n:Int)]:=by
 unfold X5;rw[xS,if_pos h];simp
theorem kv{p s:List Int}{n:Nat}(h:¬KL p s n=true):X5 p s (n+1)=X5 p s n:=by
 unfold X5;rw[xS,if_neg h];simp
theorem VK(p s:List Int)(n:Nat):(X5 p s n).length<=n:=by
 unfold X5 K9;rw[YZ];exact Zh (List.length_filter_le _ _) QJ
theorem BM{p s:List Int}{n:Nat}{x:Int}(h:x∈X5 p s n):0<=x/\x<n:=by
 unfold X5 K9 at h;obtain⟨t,ht,rfl⟩:=List.mem_map.1 h;have:=(List.mem_filter.1 ht).1;rw[List.mem_range]at this;omega
end Go.Proofs.YtmdcencmiopmmaaGreat
namespace Go.Proofs.YtmdcencmiopmmaaGreat
open Go.RowKit
def zk(l:List Int)(k:Nat)(around:Bool)(q a b er:Int):Prop:=
 (∃i,i<l.length/\Vv l k q i/\(∀j,j<i->¬Vv l k q j)/\
   a=(if around=true then Jb l q i else Jb l q i+1)/\b=(if around=true then(i:Int)+1 else(i:Int))/\er=0)\/
  ((∀i,i<l.length->¬Vv l k q i)/\a=0/\b=0/\er=6)
def VZ(l ps:List Int)(k:Nat)(around:Bool)(o a b er:Int):Prop:=
 (∃i,i<l.length/\i<=k/\V9 l ps k o i/\(∀j,i<j->j<=k->j<l.length->¬V9 l ps k o j)/\
   a=(if around=true then(i:Int)else(i:Int)+1)/\b=(if around=true then ix ps i+1 else ix ps i)/\er=0)\/
  ((∀i,i<l.length->i<=k->¬V9 l ps k o i)/\a=0/\b=0/\er=6)
def FL(l:List Int)(around:Bool)(k:Nat)(big:Bool)(a b er:Int):Prop:=
 (l.length=0/\a=0/\b=0/\er=6)\/(0<l.length/\er=0/\∃f t:Nat,a=f/\b=t/\qh l big around k f t)
theorem zk.one{l:List Int}{k:Nat}{around:Bool}{q a b er a' b' dw:Int}(h:zk l k around q a b er)(h':zk l k around q a' b' dw):a=a'/\b=b'/\er=dw:=by
 rcases h with⟨i,h1,h2,h3,rfl,rfl,rfl⟩|⟨h1,rfl,rfl,rfl⟩<;>rcases h' with⟨i',g1,g2,g3,rfl,rfl,rfl⟩|⟨g1,rfl,rfl,rfl⟩
 ·obtain rfl:i=i':=by
   rcases XC i i' with h|h|h
   ·exact absurd h2 (g3 i h)
   ·exact h
   ·exact absurd g2 (h3 i' h)
  exact⟨rfl,rfl,rfl⟩
 ·exact absurd h2 (g1 i h1)
 ·exact absurd g2 (h1 i' g1)
 ·exact⟨rfl,rfl,rfl⟩
theorem VZ.one{l ps:List Int}{k:Nat}{around:Bool}{o a b er a' b' dw:Int}(h:VZ l ps k around o a b er)(h':VZ l ps k around o a' b' dw):a=a'/\b=b'/\er=dw:=by
 rcases h with⟨i,h1,h2,h3,h4,rfl,rfl,rfl⟩|⟨h1,rfl,rfl,rfl⟩<;>rcases h' with⟨i',g1,g2,g3,g4,rfl,rfl,rfl⟩|⟨g1,rfl,rfl,rfl⟩
 ·obtain rfl:i=i':=by
   rcases XC i i' with h|h|h
   ·exact absurd g3 (h4 i' h g2 g1)
   ·exact h
   ·exact absurd h3 (g4 i h h2 h1)
  exact⟨rfl,rfl,rfl⟩
 ·exact absurd h3 (g1 i h1 h2)
 ·exact absurd g3 (h1 i' g1 g2)
 ·exact⟨rfl,rfl,rfl⟩
theorem FL.one{l:List Int}{around big:Bool}{k:Nat}{a b er a' b' dw:Int}(h:FL l around k big a b er)(h':FL l around k big a' b' dw):a=a'/\b=b'/\er=dw:=by
 rcases h with⟨h0,rfl,rfl,rfl⟩|⟨h0,rfl,f,t,rfl,rfl,h1⟩<;>rcases h' with⟨g0,rfl,rfl,rfl⟩|⟨g0,rfl,f',t',rfl,rfl,g1⟩
 ·exact⟨rfl,rfl,rfl⟩
 ·omega
 ·omega
 ·obtain⟨rfl,rfl⟩:=h1.one g1;exact⟨rfl,rfl,rfl⟩
def CV(l ps:List Int)(around:Bool)(k:Nat)(key a b er:Int):Prop:=
 if key=119 then FL l around k false a b er
 else if key=87 then FL l around k true a b er
 else if key=34\/key=39\/key=96 then zk l k around key a b er
 else if Y9 key=0 then a=0/\b=0/\er=9
 else VZ l ps k around (Y9 key) a b er
theorem CV.one{l ps:List Int}{around:Bool}{k:Nat}{key a b er a' b' dw:Int}(h:CV l ps around k key a b er)(h':CV l ps around k key a' b' dw):a=a'/\b=b'/\er=dw:=by
 unfold CV at h h';split at h
 ·rename_i e;rw[if_pos e]at h';exact h.one h'
 ·rename_i e;rw[if_neg e]at h'
  split at h
  ·rename_i e;rw[if_pos e]at h';exact h.one h'
  ·rename_i e;rw[if_neg e]at h'
   split at h
   ·rename_i e;rw[if_pos e]at h';exact h.one h'
   ·rename_i e;rw[if_neg e]at h'
    split at h
    ·rename_i e;rw[if_pos e]at h'
     obtain⟨rfl,rfl,rfl⟩:=h;obtain⟨rfl,rfl,rfl⟩:=h';exact⟨rfl,rfl,rfl⟩
    ·rename_i e;rw[if_neg e]at h';exact h.one h'
def FI(P:Int->Int->Int->Prop)(w:World)(e:Ending)(w':World):Prop:=
 ∃a b er:Int,e=.returned (.tuple #[.int .i64 a,.int .i64 b,.int .i64 er])/\P a b er/\Below w.heap.size w w'
theorem qh.bound{l:List Int}{big around:Bool}{k f t:Nat}(h:qh l big around k f t):f<=t/\t<=l.length:=by
 obtain⟨f0,t0,h1,h2⟩:=h;have a1:=h1.lo;have a2:=h1.hi;have a3:=h1.len;split at h2
 ·obtain⟨rfl,f1,g⟩:=h2
  have b1:=g.lo;have b2:=g.hi;have b3:=g.len;omega
 ·split at h2
  ·obtain⟨rfl,t1,g⟩:=h2
   have b1:=g.lo;have b2:=g.hi;have b3:=g.len;omega
  ·omega
theorem bK(key:Int)(h:Y9 key≠0):Y9 (Y9 key)=Y9 key/\Wn (Y9 key)≠Y9 key:=by
 unfold Y9 Wn at *;split
 ·decide
 ·rename_i h1
  rw[if_neg h1]at h;split
  ·decide
  ·rename_i h2
   rw[if_neg h2]at h;split
   ·decide
   ·rename_i h3
    rw[if_neg h3]at h;exact absurd rfl h
theorem Gw{l:List Int}{n i k:Nat}{o:Int}(hi:i<n)(hx:ix l i=o)(hp:(k:Int)<=ix (Jr l n n).out i)(ho:Y9 o=o)(hc:Wn o≠o)(h0:o≠0):(i:Int)+1<=ix (Jr l n n).out i/\ix (Jr l n n).out i<n:=by
 have h:=KA l n i hi;unfold Jn at h;rw[hx,ho,if_neg h0,if_neg (Ne.symm hc)]at h;rcases h with⟨t,h1,⟨h2,_⟩,_,h3⟩|⟨_,h3⟩
 ·dsimp only at h2 h3
  rcases XM t with rfl|ht
  ·rw[X8,hx]at h2
   exact absurd h2.symm hc
  ·omega
 ·omega
theorem CV.bound{l:List Int}{n k:Nat}{around:Bool}{key a b er:Int}(hn:l.length=n)(hk:k<n\/k=0)(h:CV l (Jr l n n).out around k key a b er)(h0:er=0):0<=a/\a<=b/\b<=l.length:=by
 have hw:∀big,FL l around k big a b er->0<=a/\a<=b/\b<=l.length:=by
  rintro big (⟨_,_,_,h9⟩|⟨_,_,f,t,e1,e2,h9⟩)
  ·omega
  ·have:=qh.bound h9;omega
 unfold CV at h;split at h
 ·exact hw _ h
 split at h
 ·exact hw _ h
 split at h
 ·rcases h with⟨i,h1,⟨h2,h3,h4⟩,_,rfl,rfl,_⟩|⟨_,_,_,h⟩
  ·have:=xO l key i
   split<;>omega
  ·omega
 split at h
 ·omega
 rename_i hz;rcases h with⟨i,h1,h2,⟨h3,h4⟩,_,rfl,rfl,_⟩|⟨_,_,_,h⟩
 ·obtain⟨g1,g2⟩:=bK key hz
  have:=Gw QQ h3 h4 g1 g2 hz;split<;>omega
 ·omega
def UU(k n g lk la er:Int)(w:World)(e:Ending)(w':World):Prop:=e=.returned (.tuple #[.agg #[.int .i64 k,.int .i64 n,.int .i64 g],.agg #[.int .i64 lk,.int .i64 la],.int .i64 er])/\Below w.heap.size w w'
theorem qX(w:World)(u v x y:Array Value)(e f g h:TypeId):Za ((((w.alloc (.cells u e)).alloc (.cells v f)).alloc (.cells x g)).alloc (.cells y h)) w.heap.size u e/\Za ((((w.alloc (.cells u e)).alloc (.cells v f)).alloc (.cells x g)).alloc (.cells y h)) (w.heap.size+1) v f/\Za ((((w.alloc (.cells u e)).alloc (.cells v f)).alloc (.cells x g)).alloc (.cells y h)) (w.heap.size+2) x g/\Za ((((w.alloc (.cells u e)).alloc (.cells v f)).alloc (.cells x g)).alloc (.cells y h)) (w.heap.size+3) y h/\Below w.heap.size w ((((w.alloc (.cells u e)).alloc (.cells v f)).alloc (.cells x g)).alloc (.cells y h))/\((((w.alloc (.cells u e)).alloc (.cells v f)).alloc (.cells x g)).alloc (.cells y h)).heap.size=w.heap.size+4:=by
 obtain⟨h1,h2,h3,h4,h5⟩:=QQa w u v x e f g;have hn:=Za.new (((w.alloc (.cells u e)).alloc (.cells v f)).alloc (.cells x g)) y h;rw[h5]at hn;exact⟨h1.alloc _,h2.alloc _,h3.alloc _,hn,h4.alloc h4.size _,by rw[Zv,h5]⟩
def UG(n:Nat):Code->Option Code
 | .region k o d=>if k==n then some (.region k o d)else none
 | .seq a b=>match UG n a with
  | some c=>some c
  | none=>UG n b
 | .loop c=>UG n c
 | .block _ c=>UG n c
 | .scope c=>UG n c
 | .cond _ a b=>match UG n a with
  | some c=>some c
  | none=>UG n b
 | _=>none
noncomputable def RD7:Code:=((Tryz.f269.body.bind (UG 7)).getD .skip)
theorem yj(fk fa a b op d e mk mn mg:Int)(w V:World){Q:Exit->Act->World->Prop}{u0 u1 u6 u8 u9 sV sU sK sJ sZ sQ u16 rf rT rR u20 u21 u22 u23 u24 u25 u26 u27 u28 u29 u30 u31 u32 u33 u34 u35 u36 u37 u38 rP u40 rO u42 rM u44 u45 u46 rH u48 u49 u50:Value}
  (hF:Za V w.heap.size #[.int .i64 fk,.int .i64 fa] 34) (hC:Za V (w.heap.size+1) #[.int .i64 a,.int .i64 b,.int .i64 op,.int .i64 d,.int .i64 e] 87) (hR:Za V (w.heap.size+2) #[.int .i64 0,.int .i64 0,.int .i64 0] 312) (hL:Za V (w.heap.size+3) #[.int .i64 0,.int .i64 0] 34) (hM:Za V (w.heap.size+4) #[.int .i64 mk,.int .i64 mn,.int .i64 mg] 312) (hb:Below w.heap.size w V)
  (hQ:∀(SN SL x24 x25 SI x27:Value) (w':World),Za w' (w.heap.size+2) #[.int .i64 mk,.int .i64 mn,.int .i64 mg] 312/\Za w' (w.heap.size+3) #[.int .i64 d,.int .i64 e] 34/\Below w.heap.size w w'->Q .normal ⟨(u0::u1::.pointer (some ⟨w.heap.size,0,none⟩)::.pointer (some ⟨w.heap.size+1,0,none⟩)::.pointer (some ⟨w.heap.size+2,0,none⟩)::.pointer (some ⟨w.heap.size+3,0,none⟩)::.int .i64 0::.pointer (some ⟨w.heap.size+4,0,none⟩)::u8::u9::sV::sU::sK::sJ::sZ::sQ::u16::rf::rT::rR::u20::u21::SN::SL::x24::x25::SI::x27::u28::u29::u30::u31::u32::u33::u34::u35::u36::u37::u38::rP::u40::rO::u42::rM::u44::u45::u46::rH::u48::u49::u50::[]).toArray,[]⟩ w'):
  Code.wp Tryz.prog RD7 Q ⟨(u0::u1::.pointer (some ⟨w.heap.size,0,none⟩)::.pointer (some ⟨w.heap.size+1,0,none⟩)::.pointer (some ⟨w.heap.size+2,0,none⟩)::.pointer (some ⟨w.heap.size+3,0,none⟩)::u6::.pointer (some ⟨w.heap.size+4,0,none⟩)::u8::u9::sV::sU::sK::sJ::sZ::sQ::u16::rf::rT::rR::u20::u21::u22::u23::u24::u25::u26::u27::u28::u29::u30::u31::u32::u33::u34::u35::u36::u37::u38::rP::u40::rO::u42::rM::u44::u45::u46::rH::u48::u49::u50::[]).toArray,[]⟩ V:=by
 obtain⟨c0,c1,c2,c3,c4⟩:=hC.five;obtain⟨p0,p1,-,-⟩:=hF.two;obtain⟨m0,m1,m2,q0,q1,q2⟩:=hM.three;obtain⟨d0,d1,d2,g0,g1,g2⟩:=hR.three;obtain⟨l0,l1,t0,t1⟩:=hL.two;have HF:=Zy (show _/\_/\_ from⟨((((hR.set 0 (.int .i64 mk)).set 1 (.int .i64 mn)).set 2 (.int .i64 mg)).other (a:=⟨w.heap.size+3,0,none⟩) (show w.heap.size+2≠w.heap.size+3 from QQ) (.int .i64 d)).other (a:=⟨w.heap.size+3,1,none⟩) (show w.heap.size+2≠w.heap.size+3 from QQ) (.int .i64 e),((((hL.other (a:=⟨w.heap.size+2,0,none⟩) (show w.heap.size+3≠w.heap.size+2 from QQ) (.int .i64 mk)).other (a:=⟨w.heap.size+2,1,none⟩) (show w.heap.size+3≠w.heap.size+2 from QQ) (.int .i64 mn)).other (a:=⟨w.heap.size+2,2,none⟩) (show w.heap.size+3≠w.heap.size+2 from QQ) (.int .i64 mg)).set 0 (.int .i64 d)).set 1 (.int .i64 e),(((((hb.setCell (p:=⟨w.heap.size+2,0,none⟩) QV (.int .i64 mk)).setCell (p:=⟨w.heap.size+2,1,none⟩) QV (.int .i64 mn)).setCell (p:=⟨w.heap.size+2,2,none⟩) QV (.int .i64 mg)).setCell (p:=⟨w.heap.size+3,0,none⟩) QD (.int .i64 d)).setCell (p:=⟨w.heap.size+3,1,none⟩) QD (.int .i64 e))⟩);have I9:=Zy (show _/\_/\_ from⟨((((hR.other (a:=⟨w.heap.size+3,0,none⟩) (show w.heap.size+2≠w.heap.size+3 from QQ) (.int .i64 d)).other (a:=⟨w.heap.size+3,1,none⟩) (show w.heap.size+2≠w.heap.size+3 from QQ) (.int .i64 e)).set 0 (.int .i64 mk)).set 1 (.int .i64 mn)).set 2 (.int .i64 mg),((((hL.set 0 (.int .i64 d)).set 1 (.int .i64 e)).other (a:=⟨w.heap.size+2,0,none⟩) (show w.heap.size+3≠w.heap.size+2 from QQ) (.int .i64 mk)).other (a:=⟨w.heap.size+2,1,none⟩) (show w.heap.size+3≠w.heap.size+2 from QQ) (.int .i64 mn)).other (a:=⟨w.heap.size+2,2,none⟩) (show w.heap.size+3≠w.heap.size+2 from QQ) (.int .i64 mg),(((((hb.setCell (p:=⟨w.heap.size+3,0,none⟩) QD (.int .i64 d)).setCell (p:=⟨w.heap.size+3,1,none⟩) QD (.int .i64 e)).setCell (p:=⟨w.heap.size+2,0,none⟩) QV (.int .i64 mk)).setCell (p:=⟨w.heap.size+2,1,none⟩) QV (.int .i64 mn)).setCell (p:=⟨w.heap.size+2,2,none⟩) QV (.int .i64 mg))⟩);have HQ:=Zy hQ;clear hF hC hM hR hL hb hQ
 conv=>arg 2;whnf
 go_region
 all_goals
  first
   | exact HQ.out _ _ _ _ _ _ _ ⟨HF.out.1,HF.out.2.1,HF.out.2.2.drew⟩
   | exact HQ.out _ _ _ _ _ _ _ ⟨I9.out.1,I9.out.2.1,I9.out.2.2.drew⟩
noncomputable def Qqk:Code:=((Tryz.f269.body.bind (UG 11)).getD .skip)
theorem DY(fk fa a b op d e mk mn mg:Int)(w V:World){Q:Exit->Act->World->Prop}{u0 u1 u6 u8 u9 sV sU sK sJ sZ sQ u16 rf rT rR u20 u21 u22 u23 u24 u25 u26 u27 u28 u29 u30 u31 u32 u33 u34 u35 u36 u37 u38 rP u40 rO u42 rM u44 u45 u46 rH u48 u49 u50:Value}
  (hF:Za V w.heap.size #[.int .i64 fk,.int .i64 fa] 34) (hC:Za V (w.heap.size+1) #[.int .i64 a,.int .i64 b,.int .i64 op,.int .i64 d,.int .i64 e] 87) (hR:Za V (w.heap.size+2) #[.int .i64 0,.int .i64 0,.int .i64 0] 312) (hL:Za V (w.heap.size+3) #[.int .i64 0,.int .i64 0] 34) (hM:Za V (w.heap.size+4) #[.int .i64 mk,.int .i64 mn,.int .i64 mg] 312) (hb:Below w.heap.size w V)
  (hQ:∀(x34 x35:Value) (w':World),Za w' (w.heap.size+2) #[.int .i64 mk,.int .i64 mn,.int .i64 mg] 312/\Za w' (w.heap.size+3) #[.int .i64 fk,.int .i64 fa] 34/\Below w.heap.size w w'->Q .normal ⟨(u0::u1::.pointer (some ⟨w.heap.size,0,none⟩)::.pointer (some ⟨w.heap.size+1,0,none⟩)::.pointer (some ⟨w.heap.size+2,0,none⟩)::.pointer (some ⟨w.heap.size+3,0,none⟩)::.int .i64 5::.pointer (some ⟨w.heap.size+4,0,none⟩)::u8::u9::sV::sU::sK::sJ::sZ::sQ::u16::rf::rT::rR::u20::u21::u22::u23::u24::u25::u26::u27::u28::u29::u30::u31::u32::u33::x34::x35::u36::u37::u38::rP::u40::rO::u42::rM::u44::u45::u46::rH::u48::u49::u50::[]).toArray,[]⟩ w'):
  Code.wp Tryz.prog Qqk Q ⟨(u0::u1::.pointer (some ⟨w.heap.size,0,none⟩)::.pointer (some ⟨w.heap.size+1,0,none⟩)::.pointer (some ⟨w.heap.size+2,0,none⟩)::.pointer (some ⟨w.heap.size+3,0,none⟩)::u6::.pointer (some ⟨w.heap.size+4,0,none⟩)::u8::u9::sV::sU::sK::sJ::sZ::sQ::u16::rf::rT::rR::u20::u21::u22::u23::u24::u25::u26::u27::u28::u29::u30::u31::u32::u33::u34::u35::u36::u37::u38::rP::u40::rO::u42::rM::u44::u45::u46::rH::u48::u49::u50::[]).toArray,[]⟩ V:=by
 exact QCr
noncomputable def Qqj:Code:=((Tryz.f269.body.bind (UG 15)).getD .skip)
theorem Uw(fk fa a b op d e mk mn mg:Int)(w V:World){Q:Exit->Act->World->Prop}{u0 u1 u6 u8 u9 sV sU sK sJ sZ sQ u16 rf rT rR u20 u21 u22 u23 u24 u25 u26 u27 u28 u29 u30 u31 u32 u33 u34 u35 u36 u37 u38 rP u40 rO u42 rM u44 u45 u46 rH u48 u49 u50:Value}
  (hF:Za V w.heap.size #[.int .i64 fk,.int .i64 fa] 34) (hC:Za V (w.heap.size+1) #[.int .i64 a,.int .i64 b,.int .i64 op,.int .i64 d,.int .i64 e] 87) (hR:Za V (w.heap.size+2) #[.int .i64 0,.int .i64 0,.int .i64 0] 312) (hL:Za V (w.heap.size+3) #[.int .i64 0,.int .i64 0] 34) (hM:Za V (w.heap.size+4) #[.int .i64 mk,.int .i64 mn,.int .i64 mg] 312) (hb:Below w.heap.size w V)
  (hQ:∀(gD ry:Value) (w':World),Za w' (w.heap.size+2) #[.int .i64 mk,.int .i64 mn,.int .i64 mg] 312/\Za w' (w.heap.size+3) #[.int .i64 fk,.int .i64 fa] 34/\Below w.heap.size w w'->Q .normal ⟨(u0::u1::.pointer (some ⟨w.heap.size,0,none⟩)::.pointer (some ⟨w.heap.size+1,0,none⟩)::.pointer (some ⟨w.heap.size+2,0,none⟩)::.pointer (some ⟨w.heap.size+3,0,none⟩)::.int .i64 0::.pointer (some ⟨w.heap.size+4,0,none⟩)::u8::u9::sV::sU::sK::sJ::sZ::sQ::u16::rf::rT::rR::u20::u21::u22::u23::u24::u25::u26::u27::u28::u29::u30::u31::u32::u33::u34::u35::u36::u37::u38::rP::u40::rO::u42::rM::u44::u45::u46::rH::u48::gD::ry::[]).toArray,[]⟩ w'):
  Code.wp Tryz.prog Qqj Q ⟨(u0::u1::.pointer (some ⟨w.heap.size,0,none⟩)::.pointer (some ⟨w.heap.size+1,0,none⟩)::.pointer (some ⟨w.heap.size+2,0,none⟩)::.pointer (some ⟨w.heap.size+3,0,none⟩)::u6::.pointer (some ⟨w.heap.size+4,0,none⟩)::u8::u9::sV::sU::sK::sJ::sZ::sQ::u16::rf::rT::rR::u20::u21::u22::u23::u24::u25::u26::u27::u28::u29::u30::u31::u32::u33::u34::u35::u36::u37::u38::rP::u40::rO::u42::rM::u44::u45::u46::rH::u48::u49::u50::[]).toArray,[]⟩ V:=by
 exact QCr
end Go.Proofs.YtmdcencmiopmmaaGreat
