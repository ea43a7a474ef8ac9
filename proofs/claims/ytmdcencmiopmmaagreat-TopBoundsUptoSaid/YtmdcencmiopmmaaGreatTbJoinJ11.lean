/- LiftTopBounds: joined, no condition of its own. -/
import Derived.Test.YtmdcencmiopmmaaGreatTbJoinT
import Derived.Test.YtmdcencmiopmmaaGreatTbJoinJ1
import Derived.Test.YtmdcencmiopmmaaGreatTbJoinJ3
import Derived.Test.YtmdcencmiopmmaaGreatTbJoinJ4
import Derived.Test.YtmdcencmiopmmaaGreatTbJoinJ5
import Derived.Test.YtmdcencmiopmmaaGreatTbJoinJ9
import Derived.Test.YtmdcencmiopmmaaGreatTbJoinJ10
set_option linter.unusedVariables false
set_option linter.unusedSimpArgs false
set_option maxRecDepth 100000
set_option maxHeartbeats 12000000
namespace Go.Proofs.YtmdcencmiopmmaaGreat
open Go.RowKit
theorem uS{l:List Int}{n k:Nat}{r:Int}(h:YL l n k r)(hk:k<n): -1<=r/\r<n:=by
 unfold YL at h;split at h
 ·omega
 ·split at h
  ·rcases h with⟨t,h1,_,_,rfl⟩|⟨_,rfl⟩
   ·show-1<=((k-t:Nat):Int)/\((k-t:Nat):Int)<n;omega
   ·omega
  ·rcases h with⟨t,h1,_,_,rfl⟩|⟨_,rfl⟩
   ·show-1<=((k+t:Nat):Int)/\((k+t:Nat):Int)<n;omega
   ·omega
def UN(l ps:List Int)(k:Nat)(o:Int)(i:Nat):Prop:=ix l i=o/\(k:Int)<=ix ps i
def Dk(l ps:List Int)(k:Nat)(around:Bool)(o:Int)(w:World)(e:Ending)(w':World):Prop:=
 ((∃i,i<l.length/\i<=k/\UN l ps k o i/\(∀j,i<j->j<=k->j<l.length->¬UN l ps k o j)/\
   e=.returned (.tuple #[.agg #[.int .i64 (if around=true then(i:Int)else(i:Int)+1),.int .i64 (if around=true then ix ps i+1 else ix ps i)],.int .i64 0]))\/
  ((∀i,i<l.length->i<=k->¬UN l ps k o i)/\e=.returned (.tuple #[.agg #[.int .i64 0,.int .i64 0],.int .i64 6])))/\Below w.heap.size w w'
theorem xf(a:Option Addr)(n c:Nat)(l ps:List Int)(hps:(YO l n n).out=ps)(k:Nat)(around:Bool)(o:Int)(w:World)(ha:Ints w a l)(hn:l.length=n)(h2:n<=4096)(hk:k<=4096):
  Calls Tryz.prog 280 #[.slice a n c,.int .i64 (k:Int),.bool around,.int .i64 o] w (Dk l ps k around o w):=by
 have HN:=QQ hn;clear hn;have HPS:=QQ hps;clear hps;have PY:=QQ (fun i (hi:i<n)=>(by rw[<-HPS.out];exact uS (Y2 l n i hi) hi: -1<=ix ps i/\ix ps i<n));have HPL:=QQ (show ps.length=n by rw[<-HPS.out];exact VT l n n);have hA:=QD.new w #[.int .i64 0,.int .i64 0] 349;have hb:=QC w (.cells #[.int .i64 0,.int .i64 0] 349);go_enter Tryz.func280,Tryz.ntmps280
 go_wp2_with fail
 refine(kS a n c l _ (ha.below hb) HN.out h2).mono ?_;rintro e w2 ⟨g,rfl,hI,hb2⟩;have hA2:=hA.below hb2 hA.lt;have hbb:=QW hb hb.size hb2;have ha2:=ha.below hbb;clear hA hb hb2;rw[HPS.out]at hI;obtain⟨d0,d1,f0,f1⟩:=hA2.two;have hcell:∀i,i<n->w2.cell? ⟨g,i,none⟩=some (.int .i64 (ix ps i)):=fun i hi=>by
  obtain⟨b4,o4,hb4,hc4⟩:=hI.at (k:=i) (by rw[HPL.out];exact hi);simp only[Qv,Xz]at hb4;obtain⟨rfl,rfl,-⟩:=hb4;have:=hc4 i (by rw[HPL.out];exact hi)
  rwa[Zu]at this
 have nY:=QQ hcell;clear hcell hI;go_wp2
 all_goals
  go_loopw [12] (fun v wr=>∃j:Nat,v=.int .i64 ((j:Int)-1)/\j<=n/\j<=k+1/\(∀i,j<=i->i<=k->i<n->¬UN l ps k o i)/\w2=wr) (fun v _=>(intOf v+1).toNat)
  case atStart=>
   first
   | exact⟨k+1,by go_num,by omega,by omega,fun i h1 h2 h3=>by omega,rfl⟩
   | exact⟨n,by go_num,by omega,by omega,fun i h1 h2 h3=>by omega,rfl⟩
  case round=>
   obtain⟨j,rfl,hj,hjk,hno,rfl⟩:=hrel;have Yr:=QQ hno;clear hno;by_cases hj0:j=0
   ·subst hj0
    go_wp2;obtain⟨z0,z1,-,-⟩:=QD.two ((hA2.set 0 (.int .i64 0)).set 1 (.int .i64 0));refine QV (v:=.tuple #[.agg #[.int .i64 0,.int .i64 0],.int .i64 6]) (by simp[results,Tryz.results280,go_sem,z0,z1]) rfl ?_;exact⟨.inr ⟨fun i h1 h2=>Yr.out i (by omega) h2 (by rw[HN.out]at h1;exact h1),rfl⟩,(hbb.setCell (p:=⟨w.heap.size,0,none⟩) (QU _) _).setCell (p:=⟨w.heap.size,1,none⟩) (QU _) _⟩
   ·obtain⟨i,rfl⟩:∃i,j=i+1:=⟨j-1,by omega⟩
    have hin:i<n:=by omega
    obtain⟨b1,o1,rfl,hc0⟩:=ha2.at (k:=i) (by rw[HN.out];exact hin);have ck:=hc0 i (by rw[HN.out];exact hin);have cp:=nY.out i hin;obtain⟨hr0,hr1⟩:=PY.out i hin;have ij:((i+1:Nat):Int)-1=(i:Int):=by omega
    have ii:(i:Int)<(n:Int):=by omega
    rw[ij];clear hc0;by_cases hq:ix l i=o
    ·have g1:(ix l i==o)=true:=by simpa using hq
     by_cases hp:(k:Int)<=ix ps i
     ·have HF:=QQ (show UN l ps k o i from⟨hq,hp⟩)
      clear hq
      first
      | (exfalso;omega)
      | (
       rcases around with _|_
       ·go_wp2
        obtain⟨z0,z1,-,-⟩:=QD.two ((hA2.set 0 (.int .i64 ((i:Int)+1))).set 1 (.int .i64 (ix ps i)));refine QV (v:=.tuple #[.agg #[.int .i64 ((i:Int)+1),.int .i64 (ix ps i)],.int .i64 0]) (by simp[results,Tryz.results280,go_sem,z0,z1]) rfl ?_;exact⟨.inl ⟨i,by rw[HN.out];exact hin,by omega,HF.out,fun j h1 h2 h3=>Yr.out j (by omega) h2 (by rw[HN.out]at h3;exact h3),rfl⟩,(hbb.setCell (p:=⟨w.heap.size,0,none⟩) (QU _) _).setCell (p:=⟨w.heap.size,1,none⟩) (QU _) _⟩
       ·go_wp2
        obtain⟨z0,z1,-,-⟩:=QD.two ((hA2.set 0 (.int .i64 (i:Int))).set 1 (.int .i64 (ix ps i+1)));refine QV (v:=.tuple #[.agg #[.int .i64 (i:Int),.int .i64 (ix ps i+1)],.int .i64 0]) (by simp[results,Tryz.results280,go_sem,z0,z1]) rfl ?_;exact⟨.inl ⟨i,by rw[HN.out];exact hin,by omega,HF.out,fun j h1 h2 h3=>Yr.out j (by omega) h2 (by rw[HN.out]at h3;exact h3),rfl⟩,(hbb.setCell (p:=⟨w.heap.size,0,none⟩) (QU _) _).setCell (p:=⟨w.heap.size,1,none⟩) (QU _) _⟩)
     ·have iB:=QQ (show¬UN l ps k o i from fun h=>hp h.2)
      exact Qui
    ·have g1:(ix l i==o)=false:=by simpa using hq
     have iB:=QQ (show¬UN l ps k o i from fun h=>hq h.1);exact Qui
end Go.Proofs.YtmdcencmiopmmaaGreat
namespace Go.Proofs.YtmdcencmiopmmaaGreat
def uk(p:List Int)(n k:Nat):Prop:=k<n/\∀j,j<k->ix p j=ix p (n-k+j)
def vH(p:List Int)(n k:Nat):Prop:=uk p n k/\∀k',uk p n k'->k'<=k
theorem Ac{p:List Int}{n:Nat}(h:0<n):uk p n 0:=⟨h,fun j hj=>by omega⟩
theorem Ed(p:List Int):vH p 1 0:=⟨Ac (by omega),fun k h=>by have:=h.1;omega⟩
theorem xK{p:List Int}{n k:Nat}(hn:1<=n):uk p (n+1) (k+1)↔uk p n k/\ix p k=ix p n:=by
 constructor
 ·rintro⟨h1,h2⟩
  refine⟨⟨by omega,fun j hj=>?_⟩,?_⟩
  ·have:=h2 j (by omega)
   rwa[show n+1-(k+1)+j=n-k+j from by omega]at this
  ·have:=h2 k (by omega)
   rwa[show n+1-(k+1)+k=n from by omega]at this
 ·rintro⟨⟨h1,h2⟩,h3⟩
  refine⟨by omega,fun j hj=>?_⟩;rw[show n+1-(k+1)+j=n-k+j from by omega];by_cases h:j=k
  ·subst h;rw[show n-j+j=n from by omega];exact h3
  ·exact h2 j (by omega)
theorem Ad{p:List Int}{n k k':Nat}(h:uk p n k)(hk:k'<k):uk p n k'↔uk p k k':=by
 exact Qu2
def ax(p:List Int)(i k:Nat):Prop:=uk p i k/\∀k',uk p i k'->ix p k'=ix p i->k'<=k
theorem ax.start{p:List Int}{i k:Nat}(h:vH p i k):ax p i k:=⟨h.1,fun k' hk _=>h.2 k' hk⟩
theorem ax.step{p:List Int}{i k b:Nat}(h:ax p i k)(h0:0<k)(hne:ix p k≠ix p i)(hb:vH p k b):ax p i b:=by
 refine⟨(Ad h.1 hb.1.1).2 hb.1,fun k' hk' he=>?_⟩;have hle:=h.2 k' hk' he;rcases Qi k' k with hlt|hge
 ·exact hb.2 k' ((Ad h.1 hlt).1 hk')
 ·have:k'=k:=by omega
  subst this;exact absurd he hne
theorem ax.hit{p:List Int}{i k:Nat}(h:ax p i k)(he:ix p k=ix p i)(hi:1<=i):vH p (i+1) (k+1):=by
 refine⟨(xK hi).2 ⟨h.1,he⟩,fun k' hk'=>?_⟩;cases k' with
 | zero=>omega
 | succ m=>
  obtain⟨h1,h2⟩:=(xK hi).1 hk';have:=h.2 m h1 h2;omega
theorem ax.miss{p:List Int}{i:Nat}(h:ax p i 0)(he:ix p 0≠ix p i)(hi:1<=i):vH p (i+1) 0:=by
 refine⟨Ac (by omega),fun k' hk'=>?_⟩;cases k' with
 | zero=>omega
 | succ m=>
  obtain⟨h1,h2⟩:=(xK hi).1 hk';have h3:=h.2 m h1 h2;have:m=0:=by omega
  subst this;exact absurd h2 he
theorem Lr{p:List Int}{n i:Nat}(h:i<n):ix (p.take n) i=ix p i:=by simp[ix,h]
theorem Lt{p:List Int}{n i:Nat}:ix (p.drop n) i=ix p (n+i):=by simp[ix]
def Ir(p s:List Int)(i k:Nat):Prop:=k<=i/\∀j,j<k->ix p j=ix s (i-k+j)
theorem EZ(p s:List Int)(i:Nat):Ir p s i 0:=⟨by omega,fun j hj=>by omega⟩
theorem jy{p s:List Int}{i k:Nat}:Ir p s (i+1) (k+1)↔Ir p s i k/\ix p k=ix s i:=by
 constructor
 ·rintro⟨h1,h2⟩
  refine⟨⟨by omega,fun j hj=>?_⟩,?_⟩
  ·have:=h2 j (by omega)
   rwa[show i+1-(k+1)+j=i-k+j from by omega]at this
  ·have:=h2 k (by omega)
   rwa[show i+1-(k+1)+k=i from by omega]at this
 ·rintro⟨⟨h1,h2⟩,h3⟩
  refine⟨by omega,fun j hj=>?_⟩;rw[show i+1-(k+1)+j=i-k+j from by omega];by_cases h:j=k
  ·subst h;rw[show i-j+j=i from by omega];exact h3
  ·exact h2 j (by omega)
theorem qj{p s:List Int}{i k k':Nat}(h:Ir p s i k)(hk:k'<k):Ir p s i k'↔uk p k k':=by
 exact Qu2
def aW(p s:List Int)(m i k:Nat):Prop:=k<m/\Ir p s i k/\∀k',k'<m->Ir p s i k'->k'<=k
def az(p s:List Int)(m i k:Nat):Prop:=k<m/\Ir p s i k/\∀k',k'<m->Ir p s i k'->ix p k'=ix s i->k'<=k
def Top(p s:List Int)(m i k:Nat):Prop:=k<=m/\Ir p s i k/\∀k',k'<=m->Ir p s i k'->k'<=k
theorem az.start{p s:List Int}{m i k:Nat}(h:aW p s m i k):az p s m i k:=⟨h.1,h.2.1,fun k' hk hs _=>h.2.2 k' hk hs⟩
theorem az.step{p s:List Int}{m i k b:Nat}(h:az p s m i k)(h0:0<k)(hne:ix p k≠ix s i)(hb:vH p k b):az p s m i b:=by
 have hbk:=hb.1.1;refine⟨by have:=h.1;omega,(qj h.2.1 hbk).2 hb.1,fun k' hk' hs he=>?_⟩;have hle:=h.2.2 k' hk' hs he;rcases Qi k' k with hlt|hge
 ·exact hb.2 k' ((qj h.2.1 hlt).1 hs)
 ·have:k'=k:=by omega
  subst this;exact absurd he hne
theorem az.hit{p s:List Int}{m i k:Nat}(h:az p s m i k)(he:ix p k=ix s i):Top p s m (i+1) (k+1):=by
 refine⟨h.1,jy.2 ⟨h.2.1,he⟩,fun k' hk' hs=>?_⟩;cases k' with
 | zero=>omega
 | succ j=>
  obtain⟨h1,h2⟩:=jy.1 hs;have:=h.2.2 j (by omega) h1 h2;omega
theorem az.miss{p s:List Int}{m i:Nat}(h:az p s m i 0)(he:ix p 0≠ix s i):Top p s m (i+1) 0:=by
 refine⟨by omega,EZ _ _ _,fun k' hk' hs=>?_⟩;cases k' with
 | zero=>omega
 | succ j=>
  obtain⟨h1,h2⟩:=jy.1 hs;have h3:=h.2.2 j (by omega) h1 h2;have:j=0:=by omega
  subst this;exact absurd h2 he
theorem Top.full{p s:List Int}{m i b:Nat}(h:Top p s m i m)(hb:vH p m b):aW p s m i b:=by
 refine⟨hb.1.1,(qj h.2.1 hb.1.1).2 hb.1,fun k' hk' hs=>hb.2 k' ((qj h.2.1 hk').1 hs)⟩
theorem Top.part{p s:List Int}{m i k:Nat}(h:Top p s m i k)(hk:k<m):aW p s m i k/\¬Ir p s i m:=
 ⟨⟨hk,h.2.1,fun k' hk' hs=>h.2.2 k' (by omega) hs⟩,fun hs=>by have:=h.2.2 m (QU _) hs;omega⟩
theorem NI{p s:List Int}{m:Nat}(hm:0<m):aW p s m 0 0:=⟨hm,EZ _ _ _,fun k' _ hs=>hs.1⟩
def Y8(p s:List Int)(t:Nat):Bool:=decide (p=(s.drop t).take p.length)
theorem jk{p s:List Int}{t:Nat}(ht:t+p.length<=s.length):Y8 p s t=true↔Ir p s (t+p.length) p.length:=by
 unfold Y8;rw[Zq];constructor
 ·intro h
  refine⟨by omega,fun j hj=>?_⟩;have:ix p j=ix ((s.drop t).take p.length) j:=by rw[<-h]
  rw[Lr hj,Lt]at this;rw[this];congr 1;omega
 ·rintro⟨_,h⟩
  apply zl (by simp;omega);intro j hj;rw[Lr hj,Lt,h j hj];congr 1;omega
def JF(p s:List Int)(n:Nat):List Nat:=(List.range n).filter (Y8 p s)
theorem qG(p s:List Int)(n:Nat):JF p s (n+1)=JF p s n++(if Y8 p s n=true then[n]else[]):=by
 unfold JF;rw[List.range_succ,List.filter_append];congr 1
 simp[List.filter_cons]
def Zd(p s:List Int)(n:Nat):List Int:=(JF p s n).map fun(t:Nat)=>(t:Int)
theorem Ud{p s:List Int}{n:Nat}(h:Y8 p s n=true):Zd p s (n+1)=Zd p s n++[(n:Int)]:=by
 unfold Zd;rw[qG,if_pos h];simp
theorem xR{p s:List Int}{n:Nat}(h:¬Y8 p s n=true):Zd p s (n+1)=Zd p s n:=by
 unfold Zd;rw[qG,if_neg h];simp
theorem Ka(p s:List Int)(n:Nat):(Zd p s n).length<=n:=by
 unfold Zd JF;rw[Zn];exact QL (List.length_filter_le _ _) (by simp)
theorem uR{p s:List Int}{n:Nat}{x:Int}(h:x∈Zd p s n):0<=x/\x<n:=by
 unfold Zd JF at h;obtain⟨t,ht,rfl⟩:=List.mem_map.1 h;have:=(List.mem_filter.1 ht).1;rw[List.mem_range]at this;omega
end Go.Proofs.YtmdcencmiopmmaaGreat
namespace Go.Proofs.YtmdcencmiopmmaaGreat
open Go.RowKit
def Wx(l:List Int)(k:Nat)(around:Bool)(q a b er:Int):Prop:=
 (∃i,i<l.length/\Ko l k q i/\(∀j,j<i->¬Ko l k q j)/\
   a=(if around=true then Yv l q i else Yv l q i+1)/\b=(if around=true then(i:Int)+1 else(i:Int))/\er=0)\/
  ((∀i,i<l.length->¬Ko l k q i)/\a=0/\b=0/\er=6)
def KP(l ps:List Int)(k:Nat)(around:Bool)(o a b er:Int):Prop:=
 (∃i,i<l.length/\i<=k/\UN l ps k o i/\(∀j,i<j->j<=k->j<l.length->¬UN l ps k o j)/\
   a=(if around=true then(i:Int)else(i:Int)+1)/\b=(if around=true then ix ps i+1 else ix ps i)/\er=0)\/
  ((∀i,i<l.length->i<=k->¬UN l ps k o i)/\a=0/\b=0/\er=6)
def Dq(l:List Int)(around:Bool)(k:Nat)(big:Bool)(a b er:Int):Prop:=
 (l.length=0/\a=0/\b=0/\er=6)\/(0<l.length/\er=0/\∃f t:Nat,a=f/\b=t/\Vn l big around k f t)
theorem Wx.one{l:List Int}{k:Nat}{around:Bool}{q a b er a' b' TI:Int}(h:Wx l k around q a b er)(h':Wx l k around q a' b' TI):a=a'/\b=b'/\er=TI:=by
 rcases h with⟨i,h1,h2,h3,rfl,rfl,rfl⟩|⟨h1,rfl,rfl,rfl⟩<;>rcases h' with⟨i',g1,g2,g3,rfl,rfl,rfl⟩|⟨g1,rfl,rfl,rfl⟩
 ·obtain rfl:i=i':=by
   rcases ZJ i i' with h|h|h
   ·exact absurd h2 (g3 i h)
   ·exact h
   ·exact absurd g2 (h3 i' h)
  exact⟨rfl,rfl,rfl⟩
 ·exact absurd h2 (g1 i h1)
 ·exact absurd g2 (h1 i' g1)
 ·exact⟨rfl,rfl,rfl⟩
theorem KP.one{l ps:List Int}{k:Nat}{around:Bool}{o a b er a' b' TI:Int}(h:KP l ps k around o a b er)(h':KP l ps k around o a' b' TI):a=a'/\b=b'/\er=TI:=by
 rcases h with⟨i,h1,h2,h3,h4,rfl,rfl,rfl⟩|⟨h1,rfl,rfl,rfl⟩<;>rcases h' with⟨i',g1,g2,g3,g4,rfl,rfl,rfl⟩|⟨g1,rfl,rfl,rfl⟩
 ·obtain rfl:i=i':=by
   rcases ZJ i i' with h|h|h
   ·exact absurd g3 (h4 i' h g2 g1)
   ·exact h
   ·exact absurd h3 (g4 i h h2 h1)
  exact⟨rfl,rfl,rfl⟩
 ·exact absurd h3 (g1 i h1 h2)
 ·exact absurd g3 (h1 i' g1 g2)
 ·exact⟨rfl,rfl,rfl⟩
theorem Dq.one{l:List Int}{around big:Bool}{k:Nat}{a b er a' b' TI:Int}(h:Dq l around k big a b er)(h':Dq l around k big a' b' TI):a=a'/\b=b'/\er=TI:=by
 rcases h with⟨h0,rfl,rfl,rfl⟩|⟨h0,rfl,f,t,rfl,rfl,h1⟩<;>rcases h' with⟨g0,rfl,rfl,rfl⟩|⟨g0,rfl,f',t',rfl,rfl,g1⟩
 ·exact⟨rfl,rfl,rfl⟩
 ·omega
 ·omega
 ·obtain⟨rfl,rfl⟩:=h1.one g1;exact⟨rfl,rfl,rfl⟩
def vG(l ps:List Int)(around:Bool)(k:Nat)(key a b er:Int):Prop:=
 if key=119 then Dq l around k false a b er
 else if key=87 then Dq l around k true a b er
 else if key=34\/key=39\/key=96 then Wx l k around key a b er
 else if Xl key=0 then a=0/\b=0/\er=9
 else KP l ps k around (Xl key) a b er
theorem vG.one{l ps:List Int}{around:Bool}{k:Nat}{key a b er a' b' TI:Int}(h:vG l ps around k key a b er)(h':vG l ps around k key a' b' TI):a=a'/\b=b'/\er=TI:=by
 unfold vG at h h';split at h
 ·rename_i e;rw[if_pos e]at h';exact h.one h'
 ·rename_i e;rw[if_neg e]at h'
  split at h
  ·rename_i e;rw[if_pos e]at h';exact h.one h'
  ·rename_i e;rw[if_neg e]at h'
   split at h
   ·rename_i e;rw[if_pos e]at h';exact h.one h'
   ·rename_i e;rw[if_neg e]at h'
    split at h
    ·rename_i e;rw[if_pos e]at h'
     obtain⟨rfl,rfl,rfl⟩:=h;obtain⟨rfl,rfl,rfl⟩:=h';exact⟨rfl,rfl,rfl⟩
    ·rename_i e;rw[if_neg e]at h';exact h.one h'
def DW(P:Int->Int->Int->Prop)(w:World)(e:Ending)(w':World):Prop:=
 ∃a b er:Int,e=.returned (.tuple #[.int .i64 a,.int .i64 b,.int .i64 er])/\P a b er/\Below w.heap.size w w'
theorem Vn.bound{l:List Int}{big around:Bool}{k f t:Nat}(h:Vn l big around k f t):f<=t/\t<=l.length:=by
 obtain⟨f0,t0,h1,h2⟩:=h;have a1:=h1.lo;have a2:=h1.hi;have a3:=h1.len;split at h2
 ·obtain⟨rfl,f1,g⟩:=h2
  have b1:=g.lo;have b2:=g.hi;have b3:=g.len;omega
 ·split at h2
  ·obtain⟨rfl,t1,g⟩:=h2
   have b1:=g.lo;have b2:=g.hi;have b3:=g.len;omega
  ·omega
theorem R3(key:Int)(h:Xl key≠0):Xl (Xl key)=Xl key/\VK (Xl key)≠Xl key:=by
 unfold Xl VK at *;split
 ·decide
 ·rename_i h1
  rw[if_neg h1]at h;split
  ·decide
  ·rename_i h2
   rw[if_neg h2]at h;split
   ·decide
   ·rename_i h3
    rw[if_neg h3]at h;exact absurd rfl h
theorem EI{l:List Int}{n i k:Nat}{o:Int}(hi:i<n)(hx:ix l i=o)(hp:(k:Int)<=ix (YO l n n).out i)(ho:Xl o=o)(hc:VK o≠o)(h0:o≠0):(i:Int)+1<=ix (YO l n n).out i/\ix (YO l n n).out i<n:=by
 have h:=Y2 l n i hi;unfold YL at h;rw[hx,ho,if_neg h0,if_neg (Ne.symm hc)]at h;rcases h with⟨t,h1,⟨h2,_⟩,_,h3⟩|⟨_,h3⟩
 ·dsimp only at h2 h3
  rcases Zx t with rfl|ht
  ·rw[Zp,hx]at h2
   exact absurd h2.symm hc
  ·omega
 ·omega
theorem vG.bound{l:List Int}{n k:Nat}{around:Bool}{key a b er:Int}(hn:l.length=n)(hk:k<n\/k=0)(h:vG l (YO l n n).out around k key a b er)(h0:er=0):0<=a/\a<=b/\b<=l.length:=by
 have hw:∀big,Dq l around k big a b er->0<=a/\a<=b/\b<=l.length:=by
  rintro big (⟨_,_,_,h9⟩|⟨_,_,f,t,e1,e2,h9⟩)
  ·omega
  ·have:=Vn.bound h9;omega
 unfold vG at h;split at h
 ·exact hw _ h
 split at h
 ·exact hw _ h
 split at h
 ·rcases h with⟨i,h1,⟨h2,h3,h4⟩,_,rfl,rfl,_⟩|⟨_,_,_,h⟩
  ·have:=qD l key i
   split<;>omega
  ·omega
 split at h
 ·omega
 rename_i hz;rcases h with⟨i,h1,h2,⟨h3,h4⟩,_,rfl,rfl,_⟩|⟨_,_,_,h⟩
 ·obtain⟨g1,g2⟩:=R3 key hz
  have:=EI (by omega) h3 h4 g1 g2 hz;split<;>omega
 ·omega
def JP(k n g lk la er:Int)(w:World)(e:Ending)(w':World):Prop:=e=.returned (.tuple #[.agg #[.int .i64 k,.int .i64 n,.int .i64 g],.agg #[.int .i64 lk,.int .i64 la],.int .i64 er])/\Below w.heap.size w w'
theorem Vk(w:World)(u v x y:Array Value)(e f g h:TypeId):QD ((((w.alloc (.cells u e)).alloc (.cells v f)).alloc (.cells x g)).alloc (.cells y h)) w.heap.size u e/\QD ((((w.alloc (.cells u e)).alloc (.cells v f)).alloc (.cells x g)).alloc (.cells y h)) (w.heap.size+1) v f/\QD ((((w.alloc (.cells u e)).alloc (.cells v f)).alloc (.cells x g)).alloc (.cells y h)) (w.heap.size+2) x g/\QD ((((w.alloc (.cells u e)).alloc (.cells v f)).alloc (.cells x g)).alloc (.cells y h)) (w.heap.size+3) y h/\Below w.heap.size w ((((w.alloc (.cells u e)).alloc (.cells v f)).alloc (.cells x g)).alloc (.cells y h))/\((((w.alloc (.cells u e)).alloc (.cells v f)).alloc (.cells x g)).alloc (.cells y h)).heap.size=w.heap.size+4:=by
 obtain⟨h1,h2,h3,h4,h5⟩:=nT w u v x e f g;have hn:=QD.new (((w.alloc (.cells u e)).alloc (.cells v f)).alloc (.cells x g)) y h;rw[h5]at hn;exact⟨h1.alloc _,h2.alloc _,h3.alloc _,hn,h4.alloc h4.size _,by rw[QJ,h5]⟩
def Jp(n:Nat):Code->Option Code
 | .region k o d=>if k==n then some (.region k o d)else none
 | .seq a b=>match Jp n a with
  | some c=>some c
  | none=>Jp n b
 | .loop c=>Jp n c
 | .block _ c=>Jp n c
 | .scope c=>Jp n c
 | .cond _ a b=>match Jp n a with
  | some c=>some c
  | none=>Jp n b
 | _=>none
noncomputable def RD7:Code:=((Tryz.f269.body.bind (Jp 7)).getD .skip)
theorem qi(fk fa a b op d e mk mn mg:Int)(w V:World){Q:Exit->Act->World->Prop}{u0 u1 u6 u8 u9 lW lV lU lK lJ lY u16 lX lZ lQ u20 u21 u22 u23 u24 u25 u26 u27 u28 u29 u30 u31 u32 u33 u34 u35 u36 u37 u38 il u40 ig u42 ic u44 u45 u46 ib u48 u49 nO:Value}
  (hF:QD V w.heap.size #[.int .i64 fk,.int .i64 fa] 34) (hC:QD V (w.heap.size+1) #[.int .i64 a,.int .i64 b,.int .i64 op,.int .i64 d,.int .i64 e] 87) (hR:QD V (w.heap.size+2) #[.int .i64 0,.int .i64 0,.int .i64 0] 312) (hL:QD V (w.heap.size+3) #[.int .i64 0,.int .i64 0] 34) (hM:QD V (w.heap.size+4) #[.int .i64 mk,.int .i64 mn,.int .i64 mg] 312) (hb:Below w.heap.size w V)
  (hQ:∀(PE PD x24 x25 Pv x27:Value) (w':World),QD w' (w.heap.size+2) #[.int .i64 mk,.int .i64 mn,.int .i64 mg] 312/\QD w' (w.heap.size+3) #[.int .i64 d,.int .i64 e] 34/\Below w.heap.size w w'->Q .normal ⟨(u0::u1::.pointer (some ⟨w.heap.size,0,none⟩)::.pointer (some ⟨w.heap.size+1,0,none⟩)::.pointer (some ⟨w.heap.size+2,0,none⟩)::.pointer (some ⟨w.heap.size+3,0,none⟩)::.int .i64 0::.pointer (some ⟨w.heap.size+4,0,none⟩)::u8::u9::lW::lV::lU::lK::lJ::lY::u16::lX::lZ::lQ::u20::u21::PE::PD::x24::x25::Pv::x27::u28::u29::u30::u31::u32::u33::u34::u35::u36::u37::u38::il::u40::ig::u42::ic::u44::u45::u46::ib::u48::u49::nO::[]).toArray,[]⟩ w'):
  Code.wp Tryz.prog RD7 Q ⟨(u0::u1::.pointer (some ⟨w.heap.size,0,none⟩)::.pointer (some ⟨w.heap.size+1,0,none⟩)::.pointer (some ⟨w.heap.size+2,0,none⟩)::.pointer (some ⟨w.heap.size+3,0,none⟩)::u6::.pointer (some ⟨w.heap.size+4,0,none⟩)::u8::u9::lW::lV::lU::lK::lJ::lY::u16::lX::lZ::lQ::u20::u21::u22::u23::u24::u25::u26::u27::u28::u29::u30::u31::u32::u33::u34::u35::u36::u37::u38::il::u40::ig::u42::ic::u44::u45::u46::ib::u48::u49::nO::[]).toArray,[]⟩ V:=by
 obtain⟨c0,c1,c2,c3,c4⟩:=hC.five;obtain⟨p0,p1,-,-⟩:=hF.two;obtain⟨m0,m1,m2,q0,q1,q2⟩:=hM.three;obtain⟨d0,d1,d2,g0,g1,g2⟩:=hR.three;obtain⟨l0,l1,t0,t1⟩:=hL.two;have HF:=QQ (show _/\_/\_ from⟨((((hR.set 0 (.int .i64 mk)).set 1 (.int .i64 mn)).set 2 (.int .i64 mg)).other (a:=⟨w.heap.size+3,0,none⟩) (show w.heap.size+2≠w.heap.size+3 by omega) (.int .i64 d)).other (a:=⟨w.heap.size+3,1,none⟩) (show w.heap.size+2≠w.heap.size+3 by omega) (.int .i64 e),((((hL.other (a:=⟨w.heap.size+2,0,none⟩) (show w.heap.size+3≠w.heap.size+2 by omega) (.int .i64 mk)).other (a:=⟨w.heap.size+2,1,none⟩) (show w.heap.size+3≠w.heap.size+2 by omega) (.int .i64 mn)).other (a:=⟨w.heap.size+2,2,none⟩) (show w.heap.size+3≠w.heap.size+2 by omega) (.int .i64 mg)).set 0 (.int .i64 d)).set 1 (.int .i64 e),(((((hb.setCell (p:=⟨w.heap.size+2,0,none⟩) (by show w.heap.size<=w.heap.size+2;omega) (.int .i64 mk)).setCell (p:=⟨w.heap.size+2,1,none⟩) (by show w.heap.size<=w.heap.size+2;omega) (.int .i64 mn)).setCell (p:=⟨w.heap.size+2,2,none⟩) (by show w.heap.size<=w.heap.size+2;omega) (.int .i64 mg)).setCell (p:=⟨w.heap.size+3,0,none⟩) (by show w.heap.size<=w.heap.size+3;omega) (.int .i64 d)).setCell (p:=⟨w.heap.size+3,1,none⟩) (by show w.heap.size<=w.heap.size+3;omega) (.int .i64 e))⟩);have FO:=QQ (show _/\_/\_ from⟨((((hR.other (a:=⟨w.heap.size+3,0,none⟩) (show w.heap.size+2≠w.heap.size+3 by omega) (.int .i64 d)).other (a:=⟨w.heap.size+3,1,none⟩) (show w.heap.size+2≠w.heap.size+3 by omega) (.int .i64 e)).set 0 (.int .i64 mk)).set 1 (.int .i64 mn)).set 2 (.int .i64 mg),((((hL.set 0 (.int .i64 d)).set 1 (.int .i64 e)).other (a:=⟨w.heap.size+2,0,none⟩) (show w.heap.size+3≠w.heap.size+2 by omega) (.int .i64 mk)).other (a:=⟨w.heap.size+2,1,none⟩) (show w.heap.size+3≠w.heap.size+2 by omega) (.int .i64 mn)).other (a:=⟨w.heap.size+2,2,none⟩) (show w.heap.size+3≠w.heap.size+2 by omega) (.int .i64 mg),(((((hb.setCell (p:=⟨w.heap.size+3,0,none⟩) (by show w.heap.size<=w.heap.size+3;omega) (.int .i64 d)).setCell (p:=⟨w.heap.size+3,1,none⟩) (by show w.heap.size<=w.heap.size+3;omega) (.int .i64 e)).setCell (p:=⟨w.heap.size+2,0,none⟩) (by show w.heap.size<=w.heap.size+2;omega) (.int .i64 mk)).setCell (p:=⟨w.heap.size+2,1,none⟩) (by show w.heap.size<=w.heap.size+2;omega) (.int .i64 mn)).setCell (p:=⟨w.heap.size+2,2,none⟩) (by show w.heap.size<=w.heap.size+2;omega) (.int .i64 mg))⟩);have HQ:=QQ hQ;clear hF hC hM hR hL hb hQ
 conv=>arg 2;whnf
 go_region
 all_goals
  first
   | exact HQ.out _ _ _ _ _ _ _ ⟨HF.out.1,HF.out.2.1,HF.out.2.2.drew⟩
   | exact HQ.out _ _ _ _ _ _ _ ⟨FO.out.1,FO.out.2.1,FO.out.2.2.drew⟩
noncomputable def QUO:Code:=((Tryz.f269.body.bind (Jp 11)).getD .skip)
theorem AP(fk fa a b op d e mk mn mg:Int)(w V:World){Q:Exit->Act->World->Prop}{u0 u1 u6 u8 u9 lW lV lU lK lJ lY u16 lX lZ lQ u20 u21 u22 u23 u24 u25 u26 u27 u28 u29 u30 u31 u32 u33 u34 u35 u36 u37 u38 il u40 ig u42 ic u44 u45 u46 ib u48 u49 nO:Value}
  (hF:QD V w.heap.size #[.int .i64 fk,.int .i64 fa] 34) (hC:QD V (w.heap.size+1) #[.int .i64 a,.int .i64 b,.int .i64 op,.int .i64 d,.int .i64 e] 87) (hR:QD V (w.heap.size+2) #[.int .i64 0,.int .i64 0,.int .i64 0] 312) (hL:QD V (w.heap.size+3) #[.int .i64 0,.int .i64 0] 34) (hM:QD V (w.heap.size+4) #[.int .i64 mk,.int .i64 mn,.int .i64 mg] 312) (hb:Below w.heap.size w V)
  (hQ:∀(x34 x35:Value) (w':World),QD w' (w.heap.size+2) #[.int .i64 mk,.int .i64 mn,.int .i64 mg] 312/\QD w' (w.heap.size+3) #[.int .i64 fk,.int .i64 fa] 34/\Below w.heap.size w w'->Q .normal ⟨(u0::u1::.pointer (some ⟨w.heap.size,0,none⟩)::.pointer (some ⟨w.heap.size+1,0,none⟩)::.pointer (some ⟨w.heap.size+2,0,none⟩)::.pointer (some ⟨w.heap.size+3,0,none⟩)::.int .i64 5::.pointer (some ⟨w.heap.size+4,0,none⟩)::u8::u9::lW::lV::lU::lK::lJ::lY::u16::lX::lZ::lQ::u20::u21::u22::u23::u24::u25::u26::u27::u28::u29::u30::u31::u32::u33::x34::x35::u36::u37::u38::il::u40::ig::u42::ic::u44::u45::u46::ib::u48::u49::nO::[]).toArray,[]⟩ w'):
  Code.wp Tryz.prog QUO Q ⟨(u0::u1::.pointer (some ⟨w.heap.size,0,none⟩)::.pointer (some ⟨w.heap.size+1,0,none⟩)::.pointer (some ⟨w.heap.size+2,0,none⟩)::.pointer (some ⟨w.heap.size+3,0,none⟩)::u6::.pointer (some ⟨w.heap.size+4,0,none⟩)::u8::u9::lW::lV::lU::lK::lJ::lY::u16::lX::lZ::lQ::u20::u21::u22::u23::u24::u25::u26::u27::u28::u29::u30::u31::u32::u33::u34::u35::u36::u37::u38::il::u40::ig::u42::ic::u44::u45::u46::ib::u48::u49::nO::[]).toArray,[]⟩ V:=by
 exact QkH
noncomputable def QUN:Code:=((Tryz.f269.body.bind (Jp 15)).getD .skip)
theorem KN(fk fa a b op d e mk mn mg:Int)(w V:World){Q:Exit->Act->World->Prop}{u0 u1 u6 u8 u9 lW lV lU lK lJ lY u16 lX lZ lQ u20 u21 u22 u23 u24 u25 u26 u27 u28 u29 u30 u31 u32 u33 u34 u35 u36 u37 u38 il u40 ig u42 ic u44 u45 u46 ib u48 u49 nO:Value}
  (hF:QD V w.heap.size #[.int .i64 fk,.int .i64 fa] 34) (hC:QD V (w.heap.size+1) #[.int .i64 a,.int .i64 b,.int .i64 op,.int .i64 d,.int .i64 e] 87) (hR:QD V (w.heap.size+2) #[.int .i64 0,.int .i64 0,.int .i64 0] 312) (hL:QD V (w.heap.size+3) #[.int .i64 0,.int .i64 0] 34) (hM:QD V (w.heap.size+4) #[.int .i64 mk,.int .i64 mn,.int .i64 mg] 312) (hb:Below w.heap.size w V)
  (hQ:∀(ag iL:Value) (w':World),QD w' (w.heap.size+2) #[.int .i64 mk,.int .i64 mn,.int .i64 mg] 312/\QD w' (w.heap.size+3) #[.int .i64 fk,.int .i64 fa] 34/\Below w.heap.size w w'->Q .normal ⟨(u0::u1::.pointer (some ⟨w.heap.size,0,none⟩)::.pointer (some ⟨w.heap.size+1,0,none⟩)::.pointer (some ⟨w.heap.size+2,0,none⟩)::.pointer (some ⟨w.heap.size+3,0,none⟩)::.int .i64 0::.pointer (some ⟨w.heap.size+4,0,none⟩)::u8::u9::lW::lV::lU::lK::lJ::lY::u16::lX::lZ::lQ::u20::u21::u22::u23::u24::u25::u26::u27::u28::u29::u30::u31::u32::u33::u34::u35::u36::u37::u38::il::u40::ig::u42::ic::u44::u45::u46::ib::u48::ag::iL::[]).toArray,[]⟩ w'):
  Code.wp Tryz.prog QUN Q ⟨(u0::u1::.pointer (some ⟨w.heap.size,0,none⟩)::.pointer (some ⟨w.heap.size+1,0,none⟩)::.pointer (some ⟨w.heap.size+2,0,none⟩)::.pointer (some ⟨w.heap.size+3,0,none⟩)::u6::.pointer (some ⟨w.heap.size+4,0,none⟩)::u8::u9::lW::lV::lU::lK::lJ::lY::u16::lX::lZ::lQ::u20::u21::u22::u23::u24::u25::u26::u27::u28::u29::u30::u31::u32::u33::u34::u35::u36::u37::u38::il::u40::ig::u42::ic::u44::u45::u46::ib::u48::u49::nO::[]).toArray,[]⟩ V:=by
 exact QkH
end Go.Proofs.YtmdcencmiopmmaaGreat
