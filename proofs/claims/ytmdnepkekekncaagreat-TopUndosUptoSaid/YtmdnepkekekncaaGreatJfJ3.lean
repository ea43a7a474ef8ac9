/- joined, no condition of its own. -/
import Derived.Test.YtmdnepkekekncaaGreatJfJ2
set_option linter.unusedVariables false
set_option linter.unusedSimpArgs false
set_option maxRecDepth 100000
set_option maxHeartbeats 12000000
namespace Go.Proofs.YtmdnepkekekncaaGreat
open Go.RowKit
def Hq(l m:List Int)(k:Nat):Prop:=k<=l.length/\k<=m.length/\(∀i,i<k->ix l i=ix m i)/\(k=l.length\/k=m.length\/ix l k≠ix m k)
def nJ(l m:List Int)(k j:Nat):Prop:=j+k<=l.length/\j+k<=m.length/\(∀i,i<j->ix l (l.length-1-i)=ix m (m.length-1-i))/\(j+k=l.length\/j+k=m.length\/ix l (l.length-1-j)≠ix m (m.length-1-j))
theorem Hq.one{l m:List Int}{a b:Nat}(h:Hq l m a)(h':Hq l m b):a=b:=by
 exact QHD
theorem nJ.one{l m:List Int}{k a b:Nat}(h:nJ l m k a)(h':nJ l m k b):a=b:=by
 exact QHD
theorem Hq.full{l m:List Int}{k:Nat}(h:Hq l m k)(h1:k=l.length)(h2:k=m.length):l=m:=
 kU QQ fun i hi=>h.2.2.1 i QQ
theorem Hq.same{l:List Int}{k:Nat}(h:Hq l l k):k=l.length:=by
 rcases h.2.2.2 with h|h|h
 ·exact h
 ·exact h
 ·exact absurd rfl h
def BtP(l m:List Int)(es:List Sp):Prop:=(l=m/\es=[])\/(l≠m/\∃k j,Hq l m k/\nJ l m k j/\es=[⟨(k:Int),((l.length-j:Nat):Int),(m.take (m.length-j)).drop k⟩])
theorem BtP.one{l m:List Int}{a b:List Sp}(h:BtP l m a)(h':BtP l m b):a=b:=by
 rcases h with⟨h1,rfl⟩|⟨h1,k,j,p,s,rfl⟩<;>rcases h' with⟨h2,rfl⟩|⟨h2,k',j',p',s',rfl⟩
 ·rfl
 ·exact absurd h1 h2
 ·exact absurd h2 h1
 ·obtain rfl:=p.one p'
  obtain rfl:=s.one s';rfl
def Cy(l m:List Int)(w:World)(e:Ending)(w':World):Prop:=∃v us es,e=.returned (.tuple #[v,.int .i64 0])/\Us w.heap.size w' v us es/\BtP l m es/\Below w.heap.size w w'
theorem Cy.no{l m:List Int}{w w':World}(h:l=m)(hb:Below w.heap.size w w'):Cy l m w (.returned (.tuple #[.slice none 0 0,.int .i64 0])) w':=⟨_,[],[],rfl,Us.nil _ _,.inl ⟨h,rfl⟩,hb⟩
theorem dm{w:World}{base:Nat}{u:SV}{p:Sp}(hb:base<=w.heap.size)(h:SV.is w base u p):Us base (w.alloc (.cells u.cells.toArray 282)) (.slice (some ⟨w.heap.size,0,none⟩) 1 1) [u] [p]:=by
 refine⟨⟨by simp[SV.cells],.inr ⟨w.heap.size,1,u.cells.toArray,rfl,hb,heap_alloc_new w _,QJ,Qg,by simp[SV.cells],by simp[SV.cells]⟩⟩,.cons (h.imp fun k=>k.alloc _) .nil⟩
theorem AF(la ma:Option Addr)(n c p mc:Nat)(l m:List Int)(w:World)(hl:Ints w la l)(hm:Ints w ma m)(hn:l.length=n)(hp:m.length=p)(hn2:n<=4096)(hp2:p<=4096)(hmc:p<=mc)(h0:ma=none->p=0):
  Calls Tryz.prog 179 #[.slice la n c,.slice ma p mc] w (Cy l m w):=by
 have HN:=Zy hn;have HP:=Zy hp;have H0:=Zy h0;clear hn hp h0;obtain⟨N,hN1,Tw,hN3⟩:∃N,N<=n/\N<=p/\(n<=N\/p<=N):=⟨min n p,QQ,QQ,QQ⟩;go_enter Tryz.func179,Tryz.ntmps179
 go_upto_region 4 with fail
 go_cut [6,7] (fun v u wx=>v=.int .i64 (N:Int)/\u=.int .i64 0/\w=wx)
 case first=>
  rcases XL n p with hlt|hlt|hlt
  ·obtain rfl:n=N:=by omega
   exact QGB
  ·obtain rfl:n=N:=by omega
   obtain rfl:n=p:=hlt;go_wp2
   all_goals
    exact QGL
  ·obtain rfl:p=N:=by omega
   exact QGB
 obtain⟨rfl,rfl,rfl⟩:=hcut;go_upto_block 0 with fail
 go_cut [7] (fun v wx=>∃k:Nat,v=.int .i64 (k:Int)/\k<=N/\Hid (Hq l m k)/\∃q,wx=w.drewN q)
 case first=>
  go_wp2
  go_loopw [7] (fun v wr=>∃k:Nat,v=.int .i64 (k:Int)/\k<=N/\(∀i,i<k->ix l i=ix m i)/\∃q,wr=w.drewN q) (fun v _=>N-(intOf v).toNat)
  case atStart=>exact⟨0,rfl,QQ,fun i hi=>QQ,0,rfl⟩
  case round=>
   obtain⟨k,rfl,hk,hsame,q,rfl⟩:=hrel;have HS:=Zy hsame;clear hsame;by_cases hlt:k<N
   ·obtain⟨b1,o1,rfl,hc1⟩:=hl.at (k:=k) QB
    obtain⟨b2,o2,rfl,hc2⟩:=hm.at (k:=k) ZV;have c1:=hc1 k QB;have c2:=hc2 k ZV;have i0:decide (k<N)=true:=QY;have i1:(k:Int)<(n:Int):=QQ;have i2:(k:Int)<(p:Int):=QQ;clear hc1 hc2 hl hm;by_cases he:ix l k=ix m k
    ·have g1:(ix l k==ix m k)=true:=by simpa using he
     have HE:=Zy he;clear he;go_wp2
     go_quiet (fail)
     go_wp2;go_roundw
     case rel=>
      refine⟨k+1,Qy,QQ,fun i hi=>?_,_,QM⟩;by_cases h:i=k
      ·rw[h];exact HE.out
      ·exact HS.out i QQ
     case measure=>simp[intOf];omega
    ·have g1:(ix l k==ix m k)=false:=by simpa using he
     have HE:=Zy he;clear he;go_wp2
     go_quiet (fail)
     go_wp2;go_meet;exact⟨k,rfl,QQ,Zy ⟨QB,ZV,HS.out,.inr (.inr HE.out)⟩,_,QM⟩
   ·obtain rfl:N=k:=by omega
    have i0:decide (N<N)=false:=QJ;go_wp2
    go_quiet (fail)
    go_wp2;go_meet;exact⟨N,rfl,QQ,Zy ⟨QB,ZV,HS.out,by rw[HN.out,HP.out];omega⟩,_,QM⟩
 obtain⟨k,rfl,hk,bf,q,rfl⟩:=hcut;go_upto_block 2 with fail
 go_cut [8] (fun v wx=>∃j:Nat,v=.int .i64 (j:Int)/\j+k<=N/\Hid (nJ l m k j)/\∃q,wx=w.drewN q)
 case first=>
  go_wp2
  go_loopw [8] (fun v wr=>∃j:Nat,v=.int .i64 (j:Int)/\j+k<=N/\(∀i,i<j->ix l (l.length-1-i)=ix m (m.length-1-i))/\∃q,wr=w.drewN q) (fun v _=>N-(intOf v).toNat)
  case atStart=>exact⟨0,rfl,QQ,fun i hi=>QQ,q,rfl⟩
  case round=>
   obtain⟨j,rfl,hj,hsame,q,rfl⟩:=hrel;have HS:=Zy hsame;clear hsame;have iw1:IntKind.i64.wrap ((N:Int)-(k:Int))=(N:Int)-(k:Int):=YX _ QQ;by_cases hlt:j+k<N
   ·obtain⟨b1,o1,rfl,hc1⟩:=hl.at (k:=n-1-j) QB
    obtain⟨b2,o2,rfl,hc2⟩:=hm.at (k:=p-1-j) ZV;have c1:=hc1 (n-1-j) QB;have c2:=hc2 (p-1-j) ZV;have i0:decide ((j:Int)<(N:Int)-(k:Int))=true:=QY;have i1:(n:Int)-1-(j:Int)<(n:Int):=QQ;have i2:(p:Int)-1-(j:Int)<(p:Int):=QQ;have i3:(0:Int)<=(n:Int)-1-(j:Int):=QQ;have i4:(0:Int)<=(p:Int)-1-(j:Int):=QQ;have i5:((n:Int)-1-(j:Int)).toNat=n-1-j:=QQ;have i6:((p:Int)-1-(j:Int)).toNat=p-1-j:=QQ;have iw2:IntKind.i64.wrap ((n:Int)-1)=(n:Int)-1:=YX _ QQ;have iw3:IntKind.i64.wrap ((p:Int)-1)=(p:Int)-1:=YX _ QQ;have iw4:IntKind.i64.wrap ((n:Int)-1-(j:Int))=(n:Int)-1-(j:Int):=YX _ QQ;have iw5:IntKind.i64.wrap ((p:Int)-1-(j:Int))=(p:Int)-1-(j:Int):=YX _ QQ;clear hc1 hc2 hl hm;by_cases he:ix l (n-1-j)=ix m (p-1-j)
    ·have g1:(ix l (n-1-j)==ix m (p-1-j))=true:=by simpa using he
     have HE:=Zy he;clear he;go_wp2
     go_quiet (fail)
     clear iw1 iw2 iw3 iw4 iw5 i5 i6;go_wp2;go_roundw
     case rel=>
      refine⟨j+1,Qy,QQ,fun i hi=>?_,_,QM⟩;by_cases h:i=j
      ·rw[h,HN.out,HP.out];exact HE.out
      ·exact HS.out i QQ
     case measure=>simp[intOf];omega
    ·have g1:(ix l (n-1-j)==ix m (p-1-j))=false:=by simpa using he
     have HE:=Zy he;clear he;go_wp2
     go_quiet (fail)
     clear iw1 iw2 iw3 iw4 iw5 i5 i6;go_wp2;go_meet;exact⟨j,rfl,QQ,Zy ⟨QB,ZV,HS.out,.inr (.inr (by rw[HN.out,HP.out];exact HE.out))⟩,_,QM⟩
   ·have i0:decide ((j:Int)<(N:Int)-(k:Int))=false:=by simp;omega
    go_wp2
    go_quiet (fail)
    clear iw1;go_wp2;go_meet;exact⟨j,rfl,QQ,Zy ⟨QB,ZV,HS.out,by rw[HN.out,HP.out];omega⟩,_,QM⟩
 obtain⟨j,rfl,hj,HSU,q,rfl⟩:=hcut;by_cases heq:k=n/\k=p
 ·obtain⟨rfl,rfl⟩:=heq
  go_wp2;go_ret2
  exact Cy.no (bf.out.full HN.out.symm HP.out.symm) (below_drewN (ZH _ _) _)
 ·have hne:l≠m:=by
   rintro rfl;have h1:=bf.out.same;have h2:=HN.out;have h3:=HP.out;omega
  have HNE:=Zy hne;have hcr:=zl ma p mc k (p-j) QQ QQ;have uW:=(hm.drewN q).Bt (c:=mc) k (p-j) ZV QQ ZV;have HCL:=Zy (show((m.take (p-j)).drop k).length=p-j-k by rw[Xk,Zi,HP.out];omega);have HC0:=Zy (show qO ma mc k=none->p-j-k=0 from fun h=>by have:=H0.out (Vu h);omega);have ie1:(p:Int)-(j:Int)=((p-j:Nat):Int):=QQ;have ie2:(n:Int)-(j:Int)=((n-j:Nat):Int):=QQ;clear hne H0;have hfin:∀a8 n8 c8 w8,Own 3 (w.drewN q).heap.size w8 (.slice a8 n8 c8) ((m.take (p-j)).drop k)->Below (w.drewN q).heap.size (w.drewN q) w8->
    Cy l m w (.returned (.tuple #[.slice (some ⟨w8.heap.size,0,none⟩) 1 1,.int .i64 0])) (w8.alloc (.cells #[.int .i64 (k:Int),.int .i64 ((n-j:Nat):Int),.slice a8 n8 c8] 282)):=by
   intro a8 n8 c8 w8 o8 XH;have Jp:Below w.heap.size w w8:=ZE (below_drewN (ZH _ _) q) (ZB _) XH;have hs:=dm (w:=w8) (base:=w.heap.size) (u:=⟨(k:Int),((n-j:Nat):Int),a8,n8,c8⟩) (p:=⟨(k:Int),((n-j:Nat):Int),(m.take (p-j)).drop k⟩) Jp.size ⟨rfl,rfl,o8⟩;exact⟨_,_,_,rfl,hs,.inr ⟨HNE.out,k,j,bf.out,HSU.out,by rw[HN.out,HP.out]⟩,Jp.alloc Jp.size _⟩
  have HF:=Zy hfin;clear hfin;rcases(show k=n\/k≠n from QQ)with kn|kn
  ·obtain rfl:k=n:=kn
   have g:((k:Int)==(p:Int))=false:=by rw[XX];omega
   clear heq;exact QHN
  ·have g:((k:Int)==(n:Int))=false:=by rw[XX];omega
   clear heq kn;exact QHN
end Go.Proofs.YtmdnepkekekncaaGreat
namespace Go.Proofs.YtmdnepkekekncaaGreat
def X6(c:Int)(big:Bool):Int:=
 if c=32\/c=9 then 0 else if big=true\/(97<=c/\c<=122)\/(65<=c/\c<=90)\/(48<=c/\c<=57)\/c=95\/128<=c then 1 else 2
theorem uV(c:Int)(big:Bool):0<=X6 c big/\X6 c big<=2:=by unfold X6;(repeat' split)<;>omega
def WW(l:List Int)(big:Bool)(k:Int):Int:=if k<0\/l.length<=k then-1 else X6 (ix l k.toNat) big
theorem UM{l:List Int}{big:Bool}{k:Int}(h:k<0\/l.length<=k):WW l big k= -1:=if_pos h
theorem iB{l:List Int}{big:Bool}{k:Int}(h0:0<=k)(h:k<l.length):WW l big k=X6 (ix l k.toNat) big:=if_neg QQ
theorem kK{l:List Int}{big:Bool}{k:Int}(h0:0<=k)(h:k<l.length):0<=WW l big k:=by rw[iB h0 h];exact(uV _ _).1
def CV(l:List Int)(big:Bool)(k kind r:Int):Prop:=k<=r/\(∀j,k<=j->j<r->WW l big j=kind)/\WW l big r≠kind
def CW(l:List Int)(big:Bool)(k kind r:Int):Prop:=r<=k/\(∀j,r<j->j<=k->WW l big j=kind)/\WW l big r≠kind
def WA(l:List Int)(big:Bool)(i:Int):Prop:=WW l big i≠0/\(i=0\/WW l big (i-1)≠WW l big i)
def Ends(l:List Int)(big:Bool)(i:Int):Prop:=WW l big i≠0/\WW l big (i+1)≠WW l big i
def ME(l:List Int)(big:Bool)(k r:Int):Prop:=
 ∃k1,(0<WW l big k/\CV l big k (WW l big k) k1\/¬0<WW l big k/\k1=k)/\CV l big k1 0 r
def KL(l:List Int)(big:Bool)(k r:Int):Prop:=
 ∃k1,CW l big (k-1) 0 k1/\(k1<0/\r=0\/0<=k1/\CW l big k1 (WW l big k1) (r-1))
def Rl(l:List Int)(big:Bool)(k r:Int):Prop:=
 ∃k1,CV l big (k+1) 0 k1/\(l.length<=k1/\r=max 0 ((l.length:Int)-1)\/k1<l.length/\CV l big k1 (WW l big k1) (r+1))
def Rn(l:List Int)(big:Bool)(k r:Int):Prop:=
 (k<r/\r<l.length/\WA l big r\/r=l.length)/\∀j,k<j->j<r->j<l.length->¬WA l big j
def Ro(l:List Int)(big:Bool)(k r:Int):Prop:=
 (0<r/\r<k/\WA l big r\/r=0)/\∀j,r<j->j<k->0<j->¬WA l big j
def nV(l:List Int)(big:Bool)(k r:Int):Prop:=
 (k<r/\r<l.length/\Ends l big r/\∀j,k<j->j<r->¬Ends l big j)\/(r=max 0 ((l.length:Int)-1)/\∀j,k<j->j<l.length->¬Ends l big j)
theorem TF{l:List Int}{big:Bool}{k r r':Int}(h0:0<=k)(hk:k<=l.length)(h:ME l big k r)(h':Rn l big k r'):r=r':=by
 obtain⟨k1,h1,hu,hz,hne⟩:=h;have hr:r<=l.length:=by
  rcases Yz l.length r with hlt|hle
  ·by_cases hk1:k1<=l.length
   ·have:=hz l.length hk1 hlt
    rw[UM (.inr (Int.le_refl _))]at this;omega
   ·rcases h1 with⟨hp,hu1,hs,hn1⟩|⟨_,rfl⟩
    ·have:=hs l.length hk QQ
     rw[UM (.inr (Int.le_refl _))]at this;omega
    ·omega
  ·exact hle
 have hk1:k<=k1:=by rcases h1 with⟨_,hu1,_⟩|⟨_,rfl⟩<;>omega
 have hno:∀j,k<j->j<r->¬WA l big j:=by
  intro j hj hj2 hb;by_cases hjk:k1<=j
  ·exact hb.1 (hz j hjk hj2)
  ·rcases h1 with⟨hp,hu1,hs,hn1⟩|⟨_,rfl⟩
   ·rcases hb.2 with h|h
    ·omega
    ·exact h (by rw[hs (j-1) QQ QQ,hs j QQ QQ])
   ·omega
 have OQ:r<l.length->k<r/\WA l big r:=by
  intro hlt;have hkr:k<r:=by
   rcases h1 with⟨hp,hu1,hs,hn1⟩|⟨hp,rfl⟩
   ·rcases Yz k k1 with h|h
    ·omega
    ·have:k1=k:=by omega
     subst this;exact absurd rfl hn1
   ·rcases Yz k1 r with h|h
    ·exact h
    ·have:k1=r:=by omega
     subst this;have:=kK (l:=l) (big:=big) h0 hlt;omega
  refine⟨hkr,hne,.inr ?_⟩;rcases Yz k1 r with h|h
  ·rw[hz (r-1) QQ QQ];exact fun e=>hne e.symm
  ·have QxK:k1=r:=by omega
   subst QxK;rcases h1 with⟨hp,hu1,hs,hn1⟩|⟨hp,rfl⟩
   ·rw[hs (k1-1) QQ QQ];exact fun e=>hn1 e.symm
   ·omega
 obtain⟨h1',h2'⟩:=h';rcases Int.lt_trichotomy r r' with hlt|rfl|hgt
 ·exfalso
  have hrl:r<l.length:=by rcases h1' with⟨_,h,_⟩|h<;>omega
  exact h2' r (OQ hrl).1 hlt hrl (OQ hrl).2
 ·rfl
 ·exfalso
  rcases h1' with⟨ha,hb,hc⟩|h
  ·exact hno r' ha hgt hc
  ·omega
theorem EI{l:List Int}{big:Bool}{k r r':Int}(h0:0<=k)(hk:k<=l.length)(h:KL l big k r)(h':Ro l big k r'):r=r':=by
 obtain⟨k1,⟨hu,hz,hne⟩,h1⟩:=h;obtain⟨h1',h2'⟩:=h';have hk1: -1<=k1:=by
  rcases Yz k1 (-1)with h|h
  ·have:=hz (-1) h QQ
   rw[UM (.inl QQ)]at this;omega
  ·exact h
 rcases h1 with⟨QvL,rfl⟩|⟨QYs,hu2,hz2,hne2⟩
 ·have:k1= -1:=by omega
  subst this;rcases h1' with⟨ha,hb,hc,hd⟩|h
  ·exact absurd (hz r' QQ QQ) hc
  ·exact h.symm
 ·have hr:0<=r:=by
   rcases Yz r 0 with h|h
   ·have:=hz2 (-1) QQ QQ
    rw[UM (.inl QQ)]at this;have:=kK (l:=l) (big:=big) QYs QQ;omega
   ·exact h
  have hrk:r<=k1:=by
   rcases Yz k1 r with h|h
   ·have:r-1=k1:=by omega
    rw[this]at hne2;exact absurd rfl hne2
   ·exact h
  have hkr:WW l big r=WW l big k1:=hz2 r QQ hrk;have hno:∀j,r<j->j<k->¬WA l big j:=by
   intro j hj hj2 hb;by_cases hjk:k1<j
   ·exact hb.1 (hz j hjk QQ)
   ·rcases hb.2 with h|h
    ·omega
    ·exact h (by rw[hz2 (j-1) QQ QQ,hz2 j QQ QQ])
  have OQ:0<r->WA l big r:=fun hp=>⟨by rw[hkr];exact hne,.inr (by rw[hkr];exact hne2)⟩
  rcases Int.lt_trichotomy r r' with hlt|rfl|hgt
  ·exfalso
   rcases h1' with⟨ha,hb,hc⟩|h
   ·exact hno r' hlt hb hc
   ·omega
  ·rfl
  ·exfalso
   exact h2' r hgt QQ (by rcases h1' with⟨ha,_⟩|h<;>omega) (OQ (by rcases h1' with⟨ha,_⟩|h<;>omega))
theorem mZ{l:List Int}{big:Bool}{k r r':Int}(h0:0<=k)(hk:k<=l.length)(h:Rl l big k r)(h':nV l big k r'):r=r':=by
 obtain⟨k1,⟨hu,hz,hne⟩,h1⟩:=h;rcases h1 with⟨hge,rfl⟩|⟨hlt,hu2,hz2,hne2⟩
 ·rcases h' with⟨ha,hb,hc,_⟩|⟨rfl,_⟩
  ·exact absurd (hz r' QQ QQ) hc.1
  ·rfl
 ·have QYs:0<=k1:=by omega
  have hrk:k1<=r:=by
   rcases Yz r k1 with h|h
   ·have:r+1=k1:=by omega
    rw[this]at hne2;exact absurd rfl hne2
   ·exact h
  have hrl:r<l.length:=by
   rcases Yz r l.length with h|h
   ·exact h
   ·have:=hz2 l.length QQ QQ
    rw[UM (.inr (Int.le_refl _))]at this;have:=kK (l:=l) (big:=big) QYs hlt;omega
  have hkr:WW l big r=WW l big k1:=hz2 r hrk QQ;have OQ:Ends l big r:=⟨by rw[hkr];exact hne,by rw[hkr];exact hne2⟩;have hno:∀j,k<j->j<r->¬Ends l big j:=by
   intro j hj hj2 hb;by_cases hjk:j<k1
   ·exact hb.1 (hz j QQ hjk)
   ·exact hb.2 (by rw[hz2 (j+1) QQ QQ,hz2 j QQ QQ])
  rcases h' with⟨ha,hb,hc,hd⟩|⟨rfl,hd⟩
  ·rcases Int.lt_trichotomy r r' with hl|rfl|hg
   ·exact absurd OQ (hd r QQ hl)
   ·rfl
   ·exact absurd hc (hno r' ha hg)
  ·exact absurd OQ (hd r QQ hrl)
end Go.Proofs.YtmdnepkekekncaaGreat
namespace Go.Proofs.YtmdnepkekekncaaGreat
open Go.RowKit
theorem Jj(c:Int)(big:Bool)(w:World):
  Calls Tryz.prog 151 #[.int .i64 c,.bool big] w fun e w'=>e=.returned (.int .i64 (X6 c big))/\w=w':=by
 cases big
 all_goals
  go_enter Tryz.func151,Tryz.ntmps151
  go_wp2
  all_goals(go_ret;refine⟨XE ?_,rfl⟩;unfold X6;(repeat' split)<;>simp_all<;>omega)
theorem WG(a:Option Addr)(n c:Nat)(l:List Int)(big:Bool)(k:Int)(w:World)(hl:Ints w a l)(hn:l.length=n)(hn2:n<=9223372036854775807):
  Calls Tryz.prog 142 #[.agg #[.slice a n c,.bool big],.int .i64 k] w fun e w'=>e=.returned (.int .i64 (WW l big k))/\Below w.heap.size w w':=by
 by_cases h0:k<0
 ·rw[UM (.inl h0)]
  exact QLk
 ·by_cases h1:(n:Int)<=k
  ·rw[UM (.inr QQ)]
   have HN:=Zy hn;clear hn;exact QLk
  ·obtain⟨j,rfl⟩:=Zw (show 0<=k from QQ)
   obtain⟨b1,o1,rfl,hc⟩:=hl.at (k:=j) QQ;have e1:=hc j QQ;have hb:=Xb e1;rw[iB QQ QQ,show((j:Int)).toNat=j from rfl];have HN:=Zy hn;clear hn hc hl;have i1:(j:Int)<(n:Int):=QQ;have i2:b1<w.heap.size:=hb;go_enter Tryz.func142,Tryz.ntmps142
   go_wp2
   go_quiet ((go_at_call 151;exact Calls.quiet_of_same ((Jj _ _ _).mono fun _ _ ⟨h,h'⟩=>⟨h,h'.symm⟩)))
   go_wp2;go_ret;exact⟨rfl,below_drewN (ZR _ _) _⟩
def QJ3(l:List Int)(big:Bool)(k kind:Int)(w:World)(e:Ending)(w':World):Prop:=
 ∃r:Int,e=.returned (.int .i64 r)/\CV l big k kind r/\r<=max k l.length/\Below w.heap.size w w'
def oK(l:List Int)(big:Bool)(k kind:Int)(w:World)(e:Ending)(w':World):Prop:=
 ∃r:Int,e=.returned (.int .i64 r)/\CW l big k kind r/\min k (-1)<=r/\Below w.heap.size w w'
theorem UR(a:Option Addr)(n c:Nat)(l:List Int)(big:Bool)(k kind:Int)(w:World)(hl:Ints w a l)(hn:l.length=n)(hn2:n<=4096)(hk0:0<=k)(hk1:k<=n+1)(hkind:0<=kind):
  Calls Tryz.prog 141 #[.agg #[.slice a n c,.bool big],.int .i64 k,.int .i64 1,.int .i64 kind] w (QJ3 l big k kind w):=by
 have HN:=Zy hn;clear hn;go_enter Tryz.func141,Tryz.ntmps141
 go_wp2
 go_loopw [1] (fun v wr=>∃j:Int,v=.int .i64 j/\k<=j/\j<=max k n/\(∀i,k<=i->i<j->WW l big i=kind)/\Za wr w.heap.size #[.slice a n c,.bool big] 222/\Below w.heap.size w wr/\w.heap.size+1<=wr.heap.size) (fun v _=>(n+1-intOf v).toNat)
 case atStart=>exact⟨k,rfl,QQ,QQ,fun i h1 h2=>QQ,Za.new _ _ _,ZR _ _,QJ⟩
 case round=>
  obtain⟨j,rfl,hj0,hj1,hall,hB,hbel,hsz⟩:=hrel;have HA:=Zy hall;clear hall;obtain⟨c0,c1,-,-⟩:=hB.two;go_wp2_with fail
  refine(WG a n c l big j wr (hl.below hbel) HN.out QQ).mono ?_;rintro e w1 ⟨rfl,hb1⟩;by_cases hk:WW l big j=kind
  ·have hkb:(WW l big j==kind)=true:=by simpa using hk
   have hjn:j<n:=by
    rcases Yz j n with h|h
    ·exact h
    ·rw[UM (.inr (by rw[HN.out];exact h))]at hk;omega
   have HK:=Zy hk;clear hk;go_wp2;go_roundw
   case rel=>exact⟨j+1,rfl,QQ,QQ,fun i h1 h2=>by
    rcases Yz i j with h|h
    ·exact HA.out i h1 h
    ·rw[show i=j from QQ];exact HK.out,hB.below hb1 QQ,ZE hbel hbel.size hb1,QEF⟩
   case measure=>simp[intOf];omega
  ·have hkb:(WW l big j==kind)=false:=by simpa using hk
   have HK:=Zy hk;clear hk;go_wp2;go_ret;exact⟨j,rfl,⟨hj0,HA.out,HK.out⟩,QB,ZE hbel hbel.size hb1⟩
theorem xU(a:Option Addr)(n c:Nat)(l:List Int)(big:Bool)(k kind:Int)(w:World)(hl:Ints w a l)(hn:l.length=n)(hn2:n<=4096)(hk0: -1<=k)(hk1:k<=n)(hkind:0<=kind):
  Calls Tryz.prog 141 #[.agg #[.slice a n c,.bool big],.int .i64 k,.int .i64 (-1),.int .i64 kind] w (oK l big k kind w):=by
 have HN:=Zy hn;clear hn;go_enter Tryz.func141,Tryz.ntmps141
 go_wp2
 go_loopw [1] (fun v wr=>∃j:Int,v=.int .i64 j/\j<=k/\ -1<=j/\(∀i,j<i->i<=k->WW l big i=kind)/\Za wr w.heap.size #[.slice a n c,.bool big] 222/\Below w.heap.size w wr/\w.heap.size+1<=wr.heap.size) (fun v _=>(intOf v+1).toNat)
 case atStart=>exact⟨k,rfl,QQ,QQ,fun i h1 h2=>QQ,Za.new _ _ _,ZR _ _,QJ⟩
 case round=>
  obtain⟨j,rfl,hj0,hj1,hall,hB,hbel,hsz⟩:=hrel;have HA:=Zy hall;clear hall;obtain⟨c0,c1,-,-⟩:=hB.two;go_wp2_with fail
  refine(WG a n c l big j wr (hl.below hbel) HN.out QQ).mono ?_;rintro e w1 ⟨rfl,hb1⟩;by_cases hk:WW l big j=kind
  ·have hkb:(WW l big j==kind)=true:=by simpa using hk
   have hjn:0<=j:=by
    rcases Yz j 0 with h|h
    ·rw[UM (.inl h)]at hk;omega
    ·exact h
   have HK:=Zy hk;clear hk;go_wp2;go_roundw
   case rel=>exact⟨j+ -1,rfl,QQ,QQ,fun i h1 h2=>by
    rcases Yz j i with h|h
    ·exact HA.out i h h2
    ·rw[show i=j from QQ];exact HK.out,hB.below hb1 QQ,ZE hbel hbel.size hb1,QEF⟩
   case measure=>simp[intOf];omega
  ·have hkb:(WW l big j==kind)=false:=by simpa using hk
   have HK:=Zy hk;clear hk;go_wp2;go_ret;exact⟨j,rfl,⟨hj0,HA.out,HK.out⟩,QQ,ZE hbel hbel.size hb1⟩
def uw(n:Nat)(k:Int):Int:=if 4096<n then 2 else if k<0\/(n:Int)<k then 1 else 0
theorem M9(a:Option Addr)(n c:Nat)(k:Int)(w:World):
  Calls Tryz.prog 140 #[.slice a n c,.int .i64 k] w fun e w'=>e=.returned (.int .i64 (uw n k))/\w=w':=by
 go_enter Tryz.func140,Tryz.ntmps140
 go_wp2
 all_goals(go_ret;refine⟨XE ?_,rfl⟩;unfold uw;(repeat' split)<;>first|rfl|omega)
def Py(P:Int->Prop)(w:World)(e:Ending)(w':World):Prop:=∃r:Int,e=.returned (.tuple #[.int .i64 r,.int .i64 0])/\P r/\Below w.heap.size w w'
theorem NQ{n:Nat}{k:Int}(h:n<=4096)(h0:0<=k)(h1:k<=n):uw n k=0:=by
 unfold uw;rw[if_neg QQ,if_neg QQ]
theorem V9(a:Option Addr)(n c:Nat)(k:Int)(w:World)(h:n<=4096)(h0:0<=k)(h1:k<=n):
  Calls Tryz.prog 140 #[.slice a n c,.int .i64 k] w fun e w'=>e=.returned (.int .i64 0)/\w=w':=by
 have:=M9 a n c k w
 rwa[NQ h h0 h1]at this
theorem ES(a:Option Addr)(n c:Nat)(l:List Int)(big:Bool)(k:Int)(w:World)(hl:Ints w a l)(hn:l.length=n)(hn2:n<=4096)(hk0:0<=k)(hk1:k<=n):
  Calls Tryz.prog 192 #[.slice a n c,.int .i64 k,.bool big] w (Py (ME l big k) w):=by
 have HN:=Zy hn;clear hn;go_enter Tryz.func192,Tryz.ntmps192
 go_wp2_with fail
 refine(V9 a n c k w hn2 hk0 hk1).mono ?_;rintro e w' ⟨rfl,rfl⟩;go_wp2_with fail
 have hB0:=Za.new w #[.slice a n c,.bool big] 222;refine(WG a n c l big k _ (hl.below (ZR _ _)) HN.out QQ).mono ?_;rintro e w1 ⟨rfl,hb1⟩;have hB1:=hB0.below hb1 hB0.lt;obtain⟨c0,c1,-,-⟩:=hB1.two;have JI:=ZE (ZR w _) QJ hb1;by_cases hp:0<WW l big k
 ·go_wp2_with fail
  refine(UR a n c l big k (WW l big k) w1 (hl.below JI) HN.out hn2 hk0 QQ QQ).mono ?_;rintro e w2 ⟨r,rfl,hu,hr,hb2⟩;rw[HN.out]at hr;have hB2:=hB1.below hb2 hB1.lt;obtain⟨d0,d1,-,-⟩:=hB2.two;have JP:=ZE JI JI.size hb2;have HU:=Zy hu;have hkr:=hu.1;clear hu;go_wp2_with fail
  refine(UR a n c l big r 0 w2 (hl.below JP) HN.out hn2 QQ QQ QQ).mono ?_;rintro e w3 ⟨r2,rfl,hu2,hr2,hb3⟩;have HU2:=Zy hu2;clear hu2;go_wp2;go_ret2
  exact⟨r2,rfl,⟨r,.inl ⟨hp,HU.out⟩,HU2.out⟩,ZE JP JP.size hb3⟩
 ·go_wp2_with fail
  refine(UR a n c l big k 0 w1 (hl.below JI) HN.out hn2 QQ QQ QQ).mono ?_;rintro e w3 ⟨r2,rfl,hu2,hr2,hb3⟩;have HU2:=Zy hu2;clear hu2;go_wp2;go_ret2
  exact⟨r2,rfl,⟨k,.inr ⟨QQ,rfl⟩,HU2.out⟩,ZE JI JI.size hb3⟩
theorem keepW{B:Nat}{u v:Value}{w2 w' w'':World}(h:w'.cell? ⟨B,0,none⟩=some u/\w'.cell? ⟨B,1,none⟩=some v/\Below w2.heap.size w2 w')(hb:Below w'.heap.size w' w''):
  w''.cell? ⟨B,0,none⟩=some u/\w''.cell? ⟨B,1,none⟩=some v/\Below w2.heap.size w2 w'':=
 ⟨Zd hb _ _ h.1,Zd hb _ _ h.2.1,ZE h.2.2 h.2.2.size hb⟩
theorem yu(a:Option Addr)(n c:Nat)(l:List Int)(big:Bool)(k:Int)(w:World)(hl:Ints w a l)(hn:l.length=n)(hn2:n<=4096)(hk0:0<=k)(hk1:k<=n):
  Calls Tryz.prog 122 #[.slice a n c,.int .i64 k,.bool big] w (Py (KL l big k) w):=by
 have HN:=Zy hn;clear hn;go_enter Tryz.func122,Tryz.ntmps122
 go_wp2_with fail
 refine(V9 a n c k w hn2 hk0 hk1).mono ?_;rintro e w' ⟨rfl,rfl⟩;go_wp2_with fail
 have hB0:=Za.new w #[.slice a n c,.bool big] 222;refine(xU a n c l big (k-1) 0 _ (hl.below (ZR _ _)) HN.out QQ QQ QQ QQ).mono ?_;rintro e w1 ⟨k1,rfl,hu,hr,hb1⟩;have hB1:=hB0.below hb1 hB0.lt;obtain⟨c0,c1,-,-⟩:=hB1.two;have JI:=ZE (ZR w _) QJ hb1;have HU:=Zy hu;have hkr:=hu.1;clear hu;by_cases hp:k1<0
 ·go_wp2
  go_ret2
  exact⟨0,rfl,⟨k1,HU.out,.inl ⟨hp,rfl⟩⟩,JI⟩
 ·have hkk:0<=WW l big k1:=kK QQ QB
  have hl1:=hl.below JI;go_wp2_with fail
  go_region_held3 (fun w'=>w'.cell? ⟨w.heap.size,0,none⟩=some (.slice a n c)/\w'.cell? ⟨w.heap.size,1,none⟩=some (.bool big)/\Below w1.heap.size w1 w') (first|exact⟨c0,c1,(ZH _ _).drew⟩|assumption|exact keepW ‹_› ‹_›)
   (first|(go_at_call 142;refine(WG a n c l big k1 _ (hl1.below (XW (XW ‹_›))) HN.out QQ).mono ?_;rintro e w2 ⟨rfl,hb2⟩)|(go_at_call 141;refine(xU a n c l big k1 (WW l big k1) _ (hl1.below (XW (XW ‹_›))) HN.out QQ QQ QQ hkk).mono ?_;rintro e w3 ⟨r,rfl,hu3,hr3,hb3⟩;have HU3:=Zy hu3;have hur:=hu3.1;clear hu3))
  all_goals
   go_wp2;go_ret2
   refine⟨r+1,yH (YX _ QQ) rfl,⟨k1,HU.out,.inr ⟨QQ,?_⟩⟩,ZE JI JI.size (XW (XW ‹_›))⟩;rw[show r+1-1=r from QQ];exact HU3.out
theorem IV(a:Option Addr)(n c:Nat)(l:List Int)(big:Bool)(k:Int)(w:World)(hl:Ints w a l)(hn:l.length=n)(hn2:n<=4096)(hk0:0<=k)(hk1:k<=n):
  Calls Tryz.prog 193 #[.slice a n c,.int .i64 k,.bool big] w (Py (Rl l big k) w):=by
 have HN:=Zy hn;clear hn;go_enter Tryz.func193,Tryz.ntmps193
 go_wp2_with fail
 refine(V9 a n c k w hn2 hk0 hk1).mono ?_;rintro e w' ⟨rfl,rfl⟩;go_wp2_with fail
 have hB0:=Za.new w #[.slice a n c,.bool big] 222;refine(UR a n c l big (k+1) 0 _ (hl.below (ZR _ _)) HN.out QQ QQ QQ QQ).mono ?_;rintro e w1 ⟨k1,rfl,hu,hr,hb1⟩;have hB1:=hB0.below hb1 hB0.lt;obtain⟨c0,c1,-,-⟩:=hB1.two;have JI:=ZE (ZR w _) QJ hb1;have HU:=Zy hu;have hkr:=hu.1;clear hu;rw[HN.out]at hr;by_cases hp:(n:Int)<=k1
 ·go_wp2
  all_goals
   go_ret2
   exact⟨max 0 ((n:Int)-1),yH QQ rfl,⟨k1,HU.out,.inl ⟨by rw[HN.out];exact hp,by rw[HN.out]⟩⟩,JI⟩
 ·have hkk:0<=WW l big k1:=kK QQ QB
  have hl1:=hl.below JI;go_wp2_with fail
  go_region_held3 (fun w'=>w'.cell? ⟨w.heap.size,0,none⟩=some (.slice a n c)/\w'.cell? ⟨w.heap.size,1,none⟩=some (.bool big)/\Below w1.heap.size w1 w') (first|exact⟨c0,c1,(ZH _ _).drew⟩|assumption|exact keepW ‹_› ‹_›)
   (first|(go_at_call 142;refine(WG a n c l big k1 _ (hl1.below (XW (XW ‹_›))) HN.out QQ).mono ?_;rintro e w2 ⟨rfl,hb2⟩)|(go_at_call 141;refine(UR a n c l big k1 (WW l big k1) _ (hl1.below (XW (XW ‹_›))) HN.out QQ QQ QQ hkk).mono ?_;rintro e w3 ⟨r,rfl,hu3,hr3,hb3⟩;have HU3:=Zy hu3;have hur:=hu3.1;clear hu3))
  all_goals
   rw[HN.out]at hr3;go_wp2;go_ret2
   refine⟨r-1,yH (YX _ QQ) rfl,⟨k1,HU.out,.inr ⟨QB,?_⟩⟩,ZE JI JI.size (XW (XW ‹_›))⟩;rw[show r-1+1=r from QQ];exact HU3.out
def vH(l:List Int)(big:Bool)(i:Int):Bool:=WW l big i !=0&&(i==0 || WW l big (i-1) !=WW l big i)
def mQ(l:List Int)(big:Bool)(i:Int):Bool:=WW l big i !=0&&WW l big (i+1) !=WW l big i
theorem Ki(l:List Int)(big:Bool)(i:Int):vH l big i=true↔WA l big i:=by simp[vH,WA]
theorem kF(l:List Int)(big:Bool)(i:Int):mQ l big i=true↔Ends l big i:=by simp[mQ,Ends]
def Xj(c:Int):Int:=if c=40 then 41 else if c=91 then 93 else if c=123 then 125 else if c=41 then 40 else if c=93 then 91 else if c=125 then 123 else 0
def qE(c:Int):Bool:=if c=41 then true else if c=93 then true else if c=125 then true else false
def JZ(c:Int):Int:=if c=40\/c=41 then 40 else if c=91\/c=93 then 91 else if c=123\/c=125 then 123 else 0
def qy(c:Int):Int:=if c=40\/c=41 then 41 else if c=91\/c=93 then 93 else if c=123\/c=125 then 125 else 0
theorem zT(c:Int):c=40\/c=91\/c=123\/c=41\/c=93\/c=125\/(c≠40/\c≠91/\c≠123/\c≠41/\c≠93/\c≠125):=QQ
theorem FR(c:Int):0<=Xj c/\Xj c<=125:=by
 unfold Xj;repeat' split
 all_goals omega
theorem VT(c:Int)(w:World):
  Calls Tryz.prog 191 #[.int .i64 c] w fun e w'=>e=.returned (.tuple #[.int .i64 (Xj c),.bool (qE c)])/\w=w':=by
 go_enter Tryz.func191,Tryz.ntmps191
 rcases zT c with rfl|rfl|rfl|rfl|rfl|rfl|⟨h1,h2,h3,h4,h5,h6⟩
 all_goals
  go_wp2;go_ret2
  refine⟨?_,rfl⟩
  first
  | rfl
  | simp[Xj,qE,h1,h2,h3,h4,h5,h6]
theorem kG(c:Int)(w:World):
  Calls Tryz.prog 194 #[.int .i64 c] w fun e w'=>e=.returned (.tuple #[.int .i64 (Xj c),.bool (qE c)])/\w=w':=by
 go_enter Tryz.func194,Tryz.ntmps194
 go_wp2_with fail
 refine(VT c w).mono ?_;rintro e w' ⟨rfl,rfl⟩;go_wp2;go_ret2
 exact⟨rfl,rfl⟩
def dOS(l:List Int)(o s:Int)(i:Nat):Int:=(if ix l i=o then 1 else 0)-(if ix l i=s then 1 else 0)
def cnt(l:List Int)(o s:Int)(at':Nat->Nat):Nat->Int
 | 0=>0
 | t+1=>cnt l o s at' t+dOS l o s (at' t)
def oJ(l:List Int)(o s:Int)(at':Nat->Nat)(t:Nat):Prop:=ix l (at' t)=s/\cnt l o s at' (t+1)=0
def EO(l:List Int)(o s:Int)(at':Nat->Nat)(m:Nat)(r:Int):Prop:=
 (∃t,t<m/\oJ l o s at' t/\(∀t',t'<t->¬oJ l o s at' t')/\r=(at' t:Int))\/((∀t,t<m->¬oJ l o s at' t)/\r= -1)
end Go.Proofs.YtmdnepkekekncaaGreat
namespace Go.Proofs.YtmdnepkekekncaaGreat
open Go.RowKit Go.Maps
def lQ(v:Value):Option (DataW Value×List MemPlace):=some (.held v,[])
def gG:Value:=.slice none 0 0
def Ve(w:World)(b n:Nat)(f:Int->Value):Prop:=
 ∃D:DataW Value,w.ownsMap Tryz.prog 3 lQ b n D/\∀x,qg x->D.atKey (.int .i64 x) (.held gG)=.held (f x)
theorem Bq:Maps.Keyed Tryz.prog 3:=Maps.int_keyed Tryz.underlying3
theorem Ve.kept{w w':World}{b n:Nat}{f:Int->Value}{row:Option Nat}(h:Ve w b n f)(hg:w.grownBy w' row)(hne:some b≠row):Ve w' b n f:=by
 obtain⟨D,h1,h2⟩:=h;exact⟨D,h1.kept hg hne,h2⟩
theorem Ve.alloc{w:World}{b n:Nat}{f:Int->Value}(h:Ve w b n f)(o:Obj):Ve (w.alloc o) b n f:=by
 obtain⟨D,h1,h2⟩:=h;exact⟨D,h1.alloc o,h2⟩
theorem Ve.lt{w:World}{b n:Nat}{f:Int->Value}(h:Ve w b n f):b<w.heap.size:=by
 obtain⟨D,h1,h2⟩:=h;exact h1.lt
theorem Ve.made(w:World):Ve (w.alloc (.map #[] 0)) w.heap.size 0 (fun _=>gG):=by
 refine⟨_,World.ownsMap_made w _ _ _,fun x _=>?_⟩;rfl
theorem N9{x:Int}(h:qg x):keyOf Tryz.prog 3 (.int .i64 x)=some (.int .i64 x):=Maps.keyOf_int_mk Tryz.underlying3 (by simpa[Lit.wf,IntKind.min,IntKind.max,IntKind.signed,IntKind.bits,qg]using h)
theorem Ve.lookup{w:World}{b n:Nat}{f:Int->Value}(h:Ve w b n f)(hz:(zeroValue 22).run Tryz.prog w=.ok gG w){x:Int}(hx:qg x):
  (Instr.lookup 283 (.map (some b)) (.int .i64 x) false).run Tryz.prog w=.ok (f x) w:=by
 obtain⟨D,h1,h2⟩:=h;obtain⟨v,ps,hrun,hv⟩:=h1.lookup Bq Tryz.underlying283 hz rfl (N9 hx);rw[h2 x hx]at hv;simp only[lQ,ZL,YP,DataW.held.injEq]at hv;rw[hrun,hv.1]
theorem Ve.update{w:World}{b n:Nat}{f:Int->Value}(h:Ve w b n f)(hn:n<=1000000000){x:Int}(hx:qg x)(val:Value):
  ∃w',(Instr.mapUpdate 283 (.map (some b)) (.int .i64 x) val).run Tryz.prog w=.ok () w'/\Ve w' b (n+1) (fun y=>if y=x then val else f y)/\w.grownBy w' (some b):=by
 obtain⟨D,h1,h2⟩:=h;obtain⟨w',hrun,h3,h4⟩:=h1.update Bq Tryz.underlying283 Qg (N9 hx) (show lQ val=some (.held val,[])from rfl);refine⟨w',hrun,⟨_,h3,fun y hy=>?_⟩,h4⟩;show _=DataW.held (if y=x then val else f y);by_cases e:y=x
 ·subst e
  rw[if_pos rfl];obtain⟨es,clock,_,_,_,hD⟩:=h1;exact atKey_put_same ⟨_,hD⟩ (Bq.key (N9 hx)) _ _
 ·rw[if_neg e,<-h2 y hy]
  exact atKey_put_other (fun hh=>e QEM) _ _
end Go.Proofs.YtmdnepkekekncaaGreat
namespace Go.Proofs.YtmdnepkekekncaaGreat
open Go.RowKit
structure PSt where
 out:List Int
 Jo:Int->List Int
def Ub(c:Int)(i:Nat)(s:PSt):PSt:=
 let out:=s.out.set i (-1)
 if Xj c=0 then⟨out,s.Jo⟩
 else if qE c=false then⟨out,fun y=>if y=c then s.Jo c++[(i:Int)]else s.Jo y⟩
 else if s.Jo (Xj c)=[]then⟨out,s.Jo⟩
 else⟨(out.set i (ix (s.Jo (Xj c)) ((s.Jo (Xj c)).length-1))).set (ix (s.Jo (Xj c)) ((s.Jo (Xj c)).length-1)).toNat (i:Int),
    fun y=>if y=Xj c then(s.Jo (Xj c)).dropLast else s.Jo y⟩
def Jr(l:List Int)(n:Nat):Nat->PSt
 | 0=>⟨List.replicate n 0,fun _=>[]⟩
 | i+1=>Ub (ix l i) i (Jr l n i)
theorem Tu(c:Int)(i:Nat)(s:PSt):(Ub c i s).out.length=s.out.length:=by
 unfold Ub;dsimp only;repeat' split
 all_goals simp
theorem zY(l:List Int)(n i:Nat):(Jr l n i).out.length=n:=by
 induction i with
 | zero=>simp[Jr]
 | succ i ih=>simp only[Jr];rw[Tu,ih]
theorem pJ(w:World):(zeroValue 22).run Tryz.prog w=.ok gG w:=QX
end Go.Proofs.YtmdnepkekekncaaGreat
namespace Go.Proofs.YtmdnepkekekncaaGreat
def YT(l:List Int)(o s:Int):Nat->Int
 | 0=>0
 | i+1=>YT l o s i+dOS l o s i
theorem Om(l:List Int)(o s:Int)(k t:Nat):cnt l o s (fun t=>k+t) t=YT l o s (k+t)-YT l o s k:=by
 induction t with
 | zero=>simp[cnt]
 | succ t ih=>simp only[cnt];rw[ih,show k+(t+1)=(k+t)+1 from rfl];simp only[YT];omega
theorem mK(l:List Int)(o s:Int)(i:Nat):dOS l s o i= -dOS l o s i:=by unfold dOS;omega
theorem Bw(l:List Int)(o s:Int)(k t:Nat)(h:t<=k+1):cnt l s o (fun t=>k-t) t=YT l o s (k+1-t)-YT l o s (k+1):=by
 induction t with
 | zero=>simp[cnt]
 | succ t ih=>
  have ih:=ih QQ;simp only[cnt];rw[ih,mK,show k+1-t=(k-t)+1 from QQ,show k+1-(t+1)=k-t from QQ];simp only[YT];omega
structure Match (l:List Int) (o s:Int) (p i:Nat):Prop where
 lt:p<i
 opener:ix l p=o
 closer:ix l i=s
 above:∀b,p<b->b<=i->YT l o s p+1<=YT l o s b
 meets:YT l o s (i+1)=YT l o s p
theorem Match.up{l:List Int}{o s:Int}{p i n:Nat}(h:Match l o s p i)(hi:i<n):EO l o s (fun t=>p+t) (n-p) (i:Int):=by
 have hlt:=h.lt;refine .inl ⟨i-p,QQ,⟨?_,?_⟩,fun t ht he=>?_,by show _=((p+(i-p):Nat):Int);omega⟩
 ·show ix l (p+(i-p))=s;rw[show p+(i-p)=i from QQ];exact h.closer
 ·rw[Om,show p+(i-p+1)=i+1 from QQ,h.meets];omega
 ·have h1:=he.2;rw[Om]at h1
  have:=h.above (p+(t+1)) QQ QQ;omega
theorem Match.down{l:List Int}{o s:Int}{p i:Nat}(h:Match l o s p i):EO l s o (fun t=>i-t) (i+1) (p:Int):=by
 have hlt:=h.lt;refine .inl ⟨i-p,QQ,⟨?_,?_⟩,fun t ht he=>?_,by show _=((i-(i-p):Nat):Int);omega⟩
 ·show ix l (i-(i-p))=o;rw[show i-(i-p)=p from QQ];exact h.opener
 ·rw[Bw l o s _ _ QQ,show i+1-(i-p+1)=p from QQ,h.meets];omega
 ·have h1:=he.2;rw[Bw l o s _ _ QQ,h.meets]at h1
  have:=h.above (i+1-(t+1)) QQ QQ;omega
theorem tY{l:List Int}{o s:Int}{p n:Nat}(h:∀b,p<b->b<=n->YT l o s p+1<=YT l o s b)(hp:p<n):EO l o s (fun t=>p+t) (n-p) (-1):=by
 refine .inr ⟨fun t ht he=>?_,rfl⟩;have h1:=he.2;rw[Om]at h1;have:=h (p+(t+1)) QQ QQ;omega
theorem TL{l:List Int}{o s:Int}{i:Nat}(h:∀a,a<=i->YT l o s (i+1)+1<=YT l o s a):EO l s o (fun t=>i-t) (i+1) (-1):=by
 refine .inr ⟨fun t ht he=>?_,rfl⟩;have h1:=he.2;rw[Bw l o s _ _ QQ]at h1;have:=h (i+1-(t+1)) QQ;omega
end Go.Proofs.YtmdnepkekekncaaGreat
