/- LiftTopBounds: joined, no condition of its own. -/
import Derived.Test.YtmdcencmiopmmaaGreatTbJoinT
import Derived.Test.YtmdcencmiopmmaaGreatTbJoinJ1
import Derived.Test.YtmdcencmiopmmaaGreatTbJoinJ2
set_option linter.unusedVariables false
set_option linter.unusedSimpArgs false
set_option maxRecDepth 100000
set_option maxHeartbeats 12000000
namespace Go.Proofs.YtmdcencmiopmmaaGreat
open Go.RowKit
def DU(l m:List Int)(k:Nat):Prop:=k<=l.length/\k<=m.length/\(∀i,i<k->ix l i=ix m i)/\(k=l.length\/k=m.length\/ix l k≠ix m k)
def aX(l m:List Int)(k j:Nat):Prop:=j+k<=l.length/\j+k<=m.length/\(∀i,i<j->ix l (l.length-1-i)=ix m (m.length-1-i))/\(j+k=l.length\/j+k=m.length\/ix l (l.length-1-j)≠ix m (m.length-1-j))
theorem DU.one{l m:List Int}{a b:Nat}(h:DU l m a)(h':DU l m b):a=b:=by
 exact Qur
theorem aX.one{l m:List Int}{k a b:Nat}(h:aX l m k a)(h':aX l m k b):a=b:=by
 exact Qur
theorem DU.full{l m:List Int}{k:Nat}(h:DU l m k)(h1:k=l.length)(h2:k=m.length):l=m:=
 zl (by omega) fun i hi=>h.2.2.1 i (by omega)
theorem DU.same{l:List Int}{k:Nat}(h:DU l l k):k=l.length:=by
 rcases h.2.2.2 with h|h|h
 ·exact h
 ·exact h
 ·exact absurd rfl h
def BtP(l m:List Int)(es:List Sp):Prop:=(l=m/\es=[])\/(l≠m/\∃k j,DU l m k/\aX l m k j/\es=[⟨(k:Int),((l.length-j:Nat):Int),(m.take (m.length-j)).drop k⟩])
theorem BtP.one{l m:List Int}{a b:List Sp}(h:BtP l m a)(h':BtP l m b):a=b:=by
 rcases h with⟨h1,rfl⟩|⟨h1,k,j,p,s,rfl⟩<;>rcases h' with⟨h2,rfl⟩|⟨h2,k',j',p',s',rfl⟩
 ·rfl
 ·exact absurd h1 h2
 ·exact absurd h2 h1
 ·obtain rfl:=p.one p'
  obtain rfl:=s.one s';rfl
def uj(l m:List Int)(w:World)(e:Ending)(w':World):Prop:=∃v us es,e=.returned (.tuple #[v,.int .i64 0])/\Kz w.heap.size w' v us es/\BtP l m es/\Below w.heap.size w w'
theorem uj.no{l m:List Int}{w w':World}(h:l=m)(hb:Below w.heap.size w w'):uj l m w (.returned (.tuple #[.slice none 0 0,.int .i64 0])) w':=⟨_,[],[],rfl,Kz.nil _ _,.inl ⟨h,rfl⟩,hb⟩
theorem Pt{w:World}{base:Nat}{u:SV}{p:Sp}(hb:base<=w.heap.size)(h:SV.is w base u p):Kz base (w.alloc (.cells u.cells.toArray 337)) (.slice (some ⟨w.heap.size,0,none⟩) 1 1) [u] [p]:=by
 refine⟨⟨by simp[SV.cells],.inr ⟨w.heap.size,1,u.cells.toArray,rfl,hb,heap_alloc_new w _,by simp,by unfold maxLen;omega,by simp[SV.cells],by simp[SV.cells]⟩⟩,.cons (h.imp fun k=>k.alloc _) .nil⟩
theorem jB(la ma:Option Addr)(n c p mc:Nat)(l m:List Int)(w:World)(hl:Ints w la l)(hm:Ints w ma m)(hn:l.length=n)(hp:m.length=p)(hn2:n<=4096)(hp2:p<=4096)(hmc:p<=mc)(h0:ma=none->p=0):
  Calls Tryz.prog 293 #[.slice la n c,.slice ma p mc] w (uj l m w):=by
 have HN:=QQ hn;have HP:=QQ hp;have H0:=QQ h0;clear hn hp h0;obtain⟨N,hN1,N9,fC⟩:∃N,N<=n/\N<=p/\(n<=N\/p<=N):=⟨min n p,by omega,by omega,by omega⟩;go_enter Tryz.func293,Tryz.ntmps293
 go_upto_region 4 with fail
 go_cut [6,7] (fun v u wx=>v=.int .i64 (N:Int)/\u=.int .i64 0/\w=wx)
 case first=>
  rcases ZJ n p with hlt|hlt|hlt
  ·obtain rfl:n=N:=by omega
   exact Qkm
  ·obtain rfl:n=N:=by omega
   obtain rfl:n=p:=hlt;go_wp2
   all_goals
    exact Qks
  ·obtain rfl:p=N:=by omega
   exact Qkm
 obtain⟨rfl,rfl,rfl⟩:=hcut;go_upto_block 0 with fail
 go_cut [7] (fun v wx=>∃k:Nat,v=.int .i64 (k:Int)/\k<=N/\Hid (DU l m k)/\∃q,wx=w.drewN q)
 case first=>
  go_wp2
  go_loopw [7] (fun v wr=>∃k:Nat,v=.int .i64 (k:Int)/\k<=N/\(∀i,i<k->ix l i=ix m i)/\∃q,wr=w.drewN q) (fun v _=>N-(intOf v).toNat)
  case atStart=>exact⟨0,rfl,by omega,fun i hi=>by omega,0,rfl⟩
  case round=>
   obtain⟨k,rfl,hk,hsame,q,rfl⟩:=hrel;have HS:=QQ hsame;clear hsame;by_cases hlt:k<N
   ·obtain⟨b1,o1,rfl,hc1⟩:=hl.at (k:=k) (by rw[HN.out];omega)
    obtain⟨b2,o2,rfl,hc2⟩:=hm.at (k:=k) (by rw[HP.out];omega);have c1:=hc1 k (by rw[HN.out];omega);have c2:=hc2 k (by rw[HP.out];omega);have i0:decide (k<N)=true:=by simp;omega
    have i1:(k:Int)<(n:Int):=by omega
    have i2:(k:Int)<(p:Int):=by omega
    clear hc1 hc2 hl hm;by_cases he:ix l k=ix m k
    ·have g1:(ix l k==ix m k)=true:=by simpa using he
     have HE:=QQ he;clear he;go_wp2
     go_quiet (fail)
     go_wp2;go_roundw
     case rel=>
      refine⟨k+1,by go_num,by omega,fun i hi=>?_,_,by first|rfl|exact drewN_drewN _ _ _⟩;by_cases h:i=k
      ·rw[h];exact HE.out
      ·exact HS.out i (by omega)
     case measure=>simp[intOf];omega
    ·have g1:(ix l k==ix m k)=false:=by simpa using he
     have HE:=QQ he;clear he;go_wp2
     go_quiet (fail)
     go_wp2;go_meet;exact⟨k,rfl,by omega,QQ ⟨by rw[HN.out];omega,by rw[HP.out];omega,HS.out,.inr (.inr HE.out)⟩,_,by first|rfl|exact drewN_drewN _ _ _⟩
   ·obtain rfl:N=k:=by omega
    have i0:decide (N<N)=false:=by simp
    go_wp2
    go_quiet (fail)
    go_wp2;go_meet;exact⟨N,rfl,by omega,QQ ⟨by rw[HN.out];omega,by rw[HP.out];omega,HS.out,by rw[HN.out,HP.out];omega⟩,_,by first|rfl|exact drewN_drewN _ _ _⟩
 obtain⟨k,rfl,hk,PY,q,rfl⟩:=hcut;go_upto_block 2 with fail
 go_cut [8] (fun v wx=>∃j:Nat,v=.int .i64 (j:Int)/\j+k<=N/\Hid (aX l m k j)/\∃q,wx=w.drewN q)
 case first=>
  go_wp2
  go_loopw [8] (fun v wr=>∃j:Nat,v=.int .i64 (j:Int)/\j+k<=N/\(∀i,i<j->ix l (l.length-1-i)=ix m (m.length-1-i))/\∃q,wr=w.drewN q) (fun v _=>N-(intOf v).toNat)
  case atStart=>exact⟨0,rfl,by omega,fun i hi=>by omega,q,rfl⟩
  case round=>
   obtain⟨j,rfl,hj,hsame,q,rfl⟩:=hrel;have HS:=QQ hsame;clear hsame;have iw1:IntKind.i64.wrap ((N:Int)-(k:Int))=(N:Int)-(k:Int):=Zl _ (by omega);by_cases hlt:j+k<N
   ·obtain⟨b1,o1,rfl,hc1⟩:=hl.at (k:=n-1-j) (by rw[HN.out];omega)
    obtain⟨b2,o2,rfl,hc2⟩:=hm.at (k:=p-1-j) (by rw[HP.out];omega);have c1:=hc1 (n-1-j) (by rw[HN.out];omega);have c2:=hc2 (p-1-j) (by rw[HP.out];omega);have i0:decide ((j:Int)<(N:Int)-(k:Int))=true:=by simp;omega
    have i1:(n:Int)-1-(j:Int)<(n:Int):=by omega
    have i2:(p:Int)-1-(j:Int)<(p:Int):=by omega
    have i3:(0:Int)<=(n:Int)-1-(j:Int):=by omega
    have i4:(0:Int)<=(p:Int)-1-(j:Int):=by omega
    have i5:((n:Int)-1-(j:Int)).toNat=n-1-j:=by omega
    have i6:((p:Int)-1-(j:Int)).toNat=p-1-j:=by omega
    have iw2:IntKind.i64.wrap ((n:Int)-1)=(n:Int)-1:=Zl _ (by omega);have iw3:IntKind.i64.wrap ((p:Int)-1)=(p:Int)-1:=Zl _ (by omega);have iw4:IntKind.i64.wrap ((n:Int)-1-(j:Int))=(n:Int)-1-(j:Int):=Zl _ (by omega);have iw5:IntKind.i64.wrap ((p:Int)-1-(j:Int))=(p:Int)-1-(j:Int):=Zl _ (by omega);clear hc1 hc2 hl hm;by_cases he:ix l (n-1-j)=ix m (p-1-j)
    ·have g1:(ix l (n-1-j)==ix m (p-1-j))=true:=by simpa using he
     have HE:=QQ he;clear he;go_wp2
     go_quiet (fail)
     clear iw1 iw2 iw3 iw4 iw5 i5 i6;go_wp2;go_roundw
     case rel=>
      refine⟨j+1,by go_num,by omega,fun i hi=>?_,_,by first|rfl|exact drewN_drewN _ _ _⟩;by_cases h:i=j
      ·rw[h,HN.out,HP.out];exact HE.out
      ·exact HS.out i (by omega)
     case measure=>simp[intOf];omega
    ·have g1:(ix l (n-1-j)==ix m (p-1-j))=false:=by simpa using he
     have HE:=QQ he;clear he;go_wp2
     go_quiet (fail)
     clear iw1 iw2 iw3 iw4 iw5 i5 i6;go_wp2;go_meet;exact⟨j,rfl,by omega,QQ ⟨by rw[HN.out];omega,by rw[HP.out];omega,HS.out,.inr (.inr (by rw[HN.out,HP.out];exact HE.out))⟩,_,by first|rfl|exact drewN_drewN _ _ _⟩
   ·have i0:decide ((j:Int)<(N:Int)-(k:Int))=false:=by simp;omega
    go_wp2
    go_quiet (fail)
    clear iw1;go_wp2;go_meet;exact⟨j,rfl,by omega,QQ ⟨by rw[HN.out];omega,by rw[HP.out];omega,HS.out,by rw[HN.out,HP.out];omega⟩,_,by first|rfl|exact drewN_drewN _ _ _⟩
 obtain⟨j,rfl,hj,HSU,q,rfl⟩:=hcut;by_cases heq:k=n/\k=p
 ·obtain⟨rfl,rfl⟩:=heq
  go_wp2;go_ret2
  exact uj.no (PY.out.full HN.out.symm HP.out.symm) (below_drewN (Qx _ _) _)
 ·have hne:l≠m:=by
   rintro rfl;have h1:=PY.out.same;have h2:=HN.out;have h3:=HP.out;omega
  have HNE:=QQ hne;have hcr:=Wq ma p mc k (p-j) (by omega) (by omega);have xG:=(hm.drewN q).uQ (c:=mc) k (p-j) (by rw[HP.out];omega) (by omega) (by rw[HP.out];omega);have nY:=QQ (show((m.take (p-j)).drop k).length=p-j-k by rw[Q7,QT,HP.out];omega);have nK:=QQ (show VD ma mc k=none->p-j-k=0 from fun h=>by have:=H0.out (KO h);omega);have ie1:(p:Int)-(j:Int)=((p-j:Nat):Int):=by omega
  have ie2:(n:Int)-(j:Int)=((n-j:Nat):Int):=by omega
  clear hne H0;have hfin:∀a8 n8 c8 w8,Own 3 (w.drewN q).heap.size w8 (.slice a8 n8 c8) ((m.take (p-j)).drop k)->Below (w.drewN q).heap.size (w.drewN q) w8->
    uj l m w (.returned (.tuple #[.slice (some ⟨w8.heap.size,0,none⟩) 1 1,.int .i64 0])) (w8.alloc (.cells #[.int .i64 (k:Int),.int .i64 ((n-j:Nat):Int),.slice a8 n8 c8] 337)):=by
   intro a8 n8 c8 w8 o8 ZU;have YN:Below w.heap.size w w8:=QW (below_drewN (Qx _ _) q) (QU _) ZU;have hs:=Pt (w:=w8) (base:=w.heap.size) (u:=⟨(k:Int),((n-j:Nat):Int),a8,n8,c8⟩) (p:=⟨(k:Int),((n-j:Nat):Int),(m.take (p-j)).drop k⟩) YN.size ⟨rfl,rfl,o8⟩;exact⟨_,_,_,rfl,hs,.inr ⟨HNE.out,k,j,PY.out,HSU.out,by rw[HN.out,HP.out]⟩,YN.alloc YN.size _⟩
  have HF:=QQ hfin;clear hfin;rcases(show k=n\/k≠n by omega)with kn|kn
  ·obtain rfl:k=n:=kn
   have g:((k:Int)==(p:Int))=false:=by rw[Qn];omega
   clear heq;exact Qu6
  ·have g:((k:Int)==(n:Int))=false:=by rw[Qn];omega
   clear heq kn;exact Qu6
end Go.Proofs.YtmdcencmiopmmaaGreat
namespace Go.Proofs.YtmdcencmiopmmaaGreat
def Za(c:Int)(big:Bool):Int:=
 if c=32\/c=9 then 0 else if big=true\/(97<=c/\c<=122)\/(65<=c/\c<=90)\/(48<=c/\c<=57)\/c=95\/128<=c then 1 else 2
theorem xF(c:Int)(big:Bool):0<=Za c big/\Za c big<=2:=by unfold Za;(repeat' split)<;>omega
def UD(l:List Int)(big:Bool)(k:Int):Int:=if k<0\/l.length<=k then-1 else Za (ix l k.toNat) big
theorem Js{l:List Int}{big:Bool}{k:Int}(h:k<0\/l.length<=k):UD l big k= -1:=if_pos h
theorem SG{l:List Int}{big:Bool}{k:Int}(h0:0<=k)(h:k<l.length):UD l big k=Za (ix l k.toNat) big:=if_neg (by omega)
theorem zi{l:List Int}{big:Bool}{k:Int}(h0:0<=k)(h:k<l.length):0<=UD l big k:=by rw[SG h0 h];exact(xF _ _).1
def uq(l:List Int)(big:Bool)(k kind r:Int):Prop:=k<=r/\(∀j,k<=j->j<r->UD l big j=kind)/\UD l big r≠kind
def uz(l:List Int)(big:Bool)(k kind r:Int):Prop:=r<=k/\(∀j,r<j->j<=k->UD l big j=kind)/\UD l big r≠kind
def UM(l:List Int)(big:Bool)(i:Int):Prop:=UD l big i≠0/\(i=0\/UD l big (i-1)≠UD l big i)
def Ends(l:List Int)(big:Bool)(i:Int):Prop:=UD l big i≠0/\UD l big (i+1)≠UD l big i
def Fv(l:List Int)(big:Bool)(k r:Int):Prop:=
 ∃k1,(0<UD l big k/\uq l big k (UD l big k) k1\/¬0<UD l big k/\k1=k)/\uq l big k1 0 r
def Y5(l:List Int)(big:Bool)(k r:Int):Prop:=
 ∃k1,uz l big (k-1) 0 k1/\(k1<0/\r=0\/0<=k1/\uz l big k1 (UD l big k1) (r-1))
def MB(l:List Int)(big:Bool)(k r:Int):Prop:=
 ∃k1,uq l big (k+1) 0 k1/\(l.length<=k1/\r=max 0 ((l.length:Int)-1)\/k1<l.length/\uq l big k1 (UD l big k1) (r+1))
def ME(l:List Int)(big:Bool)(k r:Int):Prop:=
 (k<r/\r<l.length/\UM l big r\/r=l.length)/\∀j,k<j->j<r->j<l.length->¬UM l big j
def MF(l:List Int)(big:Bool)(k r:Int):Prop:=
 (0<r/\r<k/\UM l big r\/r=0)/\∀j,r<j->j<k->0<j->¬UM l big j
def aK(l:List Int)(big:Bool)(k r:Int):Prop:=
 (k<r/\r<l.length/\Ends l big r/\∀j,k<j->j<r->¬Ends l big j)\/(r=max 0 ((l.length:Int)-1)/\∀j,k<j->j<l.length->¬Ends l big j)
theorem NG{l:List Int}{big:Bool}{k r r':Int}(h0:0<=k)(hk:k<=l.length)(h:Fv l big k r)(h':ME l big k r'):r=r':=by
 obtain⟨k1,h1,hu,hz,hne⟩:=h;have hr:r<=l.length:=by
  rcases Zr l.length r with hlt|hle
  ·by_cases hk1:k1<=l.length
   ·have:=hz l.length hk1 hlt
    rw[Js (.inr (Int.le_refl _))]at this;omega
   ·rcases h1 with⟨hp,hu1,hs,hn1⟩|⟨_,rfl⟩
    ·have:=hs l.length hk (by omega)
     rw[Js (.inr (Int.le_refl _))]at this;omega
    ·omega
  ·exact hle
 have hk1:k<=k1:=by rcases h1 with⟨_,hu1,_⟩|⟨_,rfl⟩<;>omega
 have hno:∀j,k<j->j<r->¬UM l big j:=by
  intro j hj hj2 hb;by_cases hjk:k1<=j
  ·exact hb.1 (hz j hjk hj2)
  ·rcases h1 with⟨hp,hu1,hs,hn1⟩|⟨_,rfl⟩
   ·rcases hb.2 with h|h
    ·omega
    ·exact h (by rw[hs (j-1) (by omega) (by omega),hs j (by omega) (by omega)])
   ·omega
 have Hg:r<l.length->k<r/\UM l big r:=by
  intro hlt;have hkr:k<r:=by
   rcases h1 with⟨hp,hu1,hs,hn1⟩|⟨hp,rfl⟩
   ·rcases Zr k k1 with h|h
    ·omega
    ·have:k1=k:=by omega
     subst this;exact absurd rfl hn1
   ·rcases Zr k1 r with h|h
    ·exact h
    ·have:k1=r:=by omega
     subst this;have:=zi (l:=l) (big:=big) h0 hlt;omega
  refine⟨hkr,hne,.inr ?_⟩;rcases Zr k1 r with h|h
  ·rw[hz (r-1) (by omega) (by omega)];exact fun e=>hne e.symm
  ·have QKa:k1=r:=by omega
   subst QKa;rcases h1 with⟨hp,hu1,hs,hn1⟩|⟨hp,rfl⟩
   ·rw[hs (k1-1) (by omega) (by omega)];exact fun e=>hn1 e.symm
   ·omega
 obtain⟨h1',h2'⟩:=h';rcases Int.lt_trichotomy r r' with hlt|rfl|hgt
 ·exfalso
  have hrl:r<l.length:=by rcases h1' with⟨_,h,_⟩|h<;>omega
  exact h2' r (Hg hrl).1 hlt hrl (Hg hrl).2
 ·rfl
 ·exfalso
  rcases h1' with⟨ha,hb,hc⟩|h
  ·exact hno r' ha hgt hc
  ·omega
theorem Ae{l:List Int}{big:Bool}{k r r':Int}(h0:0<=k)(hk:k<=l.length)(h:Y5 l big k r)(h':MF l big k r'):r=r':=by
 obtain⟨k1,⟨hu,hz,hne⟩,h1⟩:=h;obtain⟨h1',h2'⟩:=h';have hk1: -1<=k1:=by
  rcases Zr k1 (-1)with h|h
  ·have:=hz (-1) h (by omega)
   rw[Js (.inl (by omega))]at this;omega
  ·exact h
 rcases h1 with⟨QzG,rfl⟩|⟨rU,hu2,hz2,hne2⟩
 ·have:k1= -1:=by omega
  subst this;rcases h1' with⟨ha,hb,hc,hd⟩|h
  ·exact absurd (hz r' (by omega) (by omega)) hc
  ·exact h.symm
 ·have hr:0<=r:=by
   rcases Zr r 0 with h|h
   ·have:=hz2 (-1) (by omega) (by omega)
    rw[Js (.inl (by omega))]at this;have:=zi (l:=l) (big:=big) rU (by omega);omega
   ·exact h
  have hrk:r<=k1:=by
   rcases Zr k1 r with h|h
   ·have:r-1=k1:=by omega
    rw[this]at hne2;exact absurd rfl hne2
   ·exact h
  have hkr:UD l big r=UD l big k1:=hz2 r (by omega) hrk;have hno:∀j,r<j->j<k->¬UM l big j:=by
   intro j hj hj2 hb;by_cases hjk:k1<j
   ·exact hb.1 (hz j hjk (by omega))
   ·rcases hb.2 with h|h
    ·omega
    ·exact h (by rw[hz2 (j-1) (by omega) (by omega),hz2 j (by omega) (by omega)])
  have Hg:0<r->UM l big r:=fun hp=>⟨by rw[hkr];exact hne,.inr (by rw[hkr];exact hne2)⟩
  rcases Int.lt_trichotomy r r' with hlt|rfl|hgt
  ·exfalso
   rcases h1' with⟨ha,hb,hc⟩|h
   ·exact hno r' hlt hb hc
   ·omega
  ·rfl
  ·exfalso
   exact h2' r hgt (by omega) (by rcases h1' with⟨ha,_⟩|h<;>omega) (Hg (by rcases h1' with⟨ha,_⟩|h<;>omega))
theorem TM{l:List Int}{big:Bool}{k r r':Int}(h0:0<=k)(hk:k<=l.length)(h:MB l big k r)(h':aK l big k r'):r=r':=by
 obtain⟨k1,⟨hu,hz,hne⟩,h1⟩:=h;rcases h1 with⟨hge,rfl⟩|⟨hlt,hu2,hz2,hne2⟩
 ·rcases h' with⟨ha,hb,hc,_⟩|⟨rfl,_⟩
  ·exact absurd (hz r' (by omega) (by omega)) hc.1
  ·rfl
 ·have rU:0<=k1:=by omega
  have hrk:k1<=r:=by
   rcases Zr r k1 with h|h
   ·have:r+1=k1:=by omega
    rw[this]at hne2;exact absurd rfl hne2
   ·exact h
  have hrl:r<l.length:=by
   rcases Zr r l.length with h|h
   ·exact h
   ·have:=hz2 l.length (by omega) (by omega)
    rw[Js (.inr (Int.le_refl _))]at this;have:=zi (l:=l) (big:=big) rU hlt;omega
  have hkr:UD l big r=UD l big k1:=hz2 r hrk (by omega);have Hg:Ends l big r:=⟨by rw[hkr];exact hne,by rw[hkr];exact hne2⟩;have hno:∀j,k<j->j<r->¬Ends l big j:=by
   intro j hj hj2 hb;by_cases hjk:j<k1
   ·exact hb.1 (hz j (by omega) hjk)
   ·exact hb.2 (by rw[hz2 (j+1) (by omega) (by omega),hz2 j (by omega) (by omega)])
  rcases h' with⟨ha,hb,hc,hd⟩|⟨rfl,hd⟩
  ·rcases Int.lt_trichotomy r r' with hl|rfl|hg
   ·exact absurd Hg (hd r (by omega) hl)
   ·rfl
   ·exact absurd hc (hno r' ha hg)
  ·exact absurd Hg (hd r (by omega) hrl)
end Go.Proofs.YtmdcencmiopmmaaGreat
namespace Go.Proofs.YtmdcencmiopmmaaGreat
open Go.RowKit
theorem X5(c:Int)(big:Bool)(w:World):
  Calls Tryz.prog 246 #[.int .i64 c,.bool big] w fun e w'=>e=.returned (.int .i64 (Za c big))/\w=w':=by
 cases big
 all_goals
  go_enter Tryz.func246,Tryz.ntmps246
  go_wp2
  all_goals(go_ret;refine⟨ZQ ?_,rfl⟩;unfold Za;(repeat' split)<;>simp_all<;>omega)
theorem UR(a:Option Addr)(n c:Nat)(l:List Int)(big:Bool)(k:Int)(w:World)(hl:Ints w a l)(hn:l.length=n)(hn2:n<=9223372036854775807):
  Calls Tryz.prog 226 #[.agg #[.slice a n c,.bool big],.int .i64 k] w fun e w'=>e=.returned (.int .i64 (UD l big k))/\Below w.heap.size w w':=by
 by_cases h0:k<0
 ·rw[Js (.inl h0)]
  exact QAT
 ·by_cases h1:(n:Int)<=k
  ·rw[Js (.inr (by omega))]
   have HN:=QQ hn;clear hn;exact QAT
  ·obtain⟨j,rfl⟩:=Qg (show 0<=k by omega)
   obtain⟨b1,o1,rfl,hc⟩:=hl.at (k:=j) (by omega);have e1:=hc j (by omega);have hb:=Zv e1;rw[SG (by omega) (by omega),show((j:Int)).toNat=j from rfl];have HN:=QQ hn;clear hn hc hl;have i1:(j:Int)<(n:Int):=by omega
   have i2:b1<w.heap.size:=hb;go_enter Tryz.func226,Tryz.ntmps226
   go_wp2
   go_quiet ((go_at_call 246;exact Calls.quiet_of_same ((X5 _ _ _).mono fun _ _ ⟨h,h'⟩=>⟨h,h'.symm⟩)))
   go_wp2;go_ret;exact⟨rfl,below_drewN (QC _ _) _⟩
def QQJ(l:List Int)(big:Bool)(k kind:Int)(w:World)(e:Ending)(w':World):Prop:=
 ∃r:Int,e=.returned (.int .i64 r)/\uq l big k kind r/\r<=max k l.length/\Below w.heap.size w w'
def aO(l:List Int)(big:Bool)(k kind:Int)(w:World)(e:Ending)(w':World):Prop:=
 ∃r:Int,e=.returned (.int .i64 r)/\uz l big k kind r/\min k (-1)<=r/\Below w.heap.size w w'
theorem J3(a:Option Addr)(n c:Nat)(l:List Int)(big:Bool)(k kind:Int)(w:World)(hl:Ints w a l)(hn:l.length=n)(hn2:n<=4096)(hk0:0<=k)(hk1:k<=n+1)(hkind:0<=kind):
  Calls Tryz.prog 225 #[.agg #[.slice a n c,.bool big],.int .i64 k,.int .i64 1,.int .i64 kind] w (QQJ l big k kind w):=by
 have HN:=QQ hn;clear hn;go_enter Tryz.func225,Tryz.ntmps225
 go_wp2
 go_loopw [1] (fun v wr=>∃j:Int,v=.int .i64 j/\k<=j/\j<=max k n/\(∀i,k<=i->i<j->UD l big i=kind)/\QD wr w.heap.size #[.slice a n c,.bool big] 298/\Below w.heap.size w wr/\w.heap.size+1<=wr.heap.size) (fun v _=>(n+1-intOf v).toNat)
 case atStart=>exact⟨k,rfl,by omega,by omega,fun i h1 h2=>by omega,QD.new _ _ _,QC _ _,by simp⟩
 case round=>
  obtain⟨j,rfl,hj0,hj1,hall,hB,hbel,hsz⟩:=hrel;have HA:=QQ hall;clear hall;obtain⟨c0,c1,-,-⟩:=hB.two;go_wp2_with fail
  refine(UR a n c l big j wr (hl.below hbel) HN.out (by omega)).mono ?_;rintro e w1 ⟨rfl,hb1⟩;by_cases hk:UD l big j=kind
  ·have hkb:(UD l big j==kind)=true:=by simpa using hk
   have hjn:j<n:=by
    rcases Zr j n with h|h
    ·exact h
    ·rw[Js (.inr (by rw[HN.out];exact h))]at hk;omega
   have HK:=QQ hk;clear hk;go_wp2;go_roundw
   case rel=>exact⟨j+1,rfl,by omega,by omega,fun i h1 h2=>by
    rcases Zr i j with h|h
    ·exact HA.out i h1 h
    ·rw[show i=j from by omega];exact HK.out,hB.below hb1 (by omega),QW hbel hbel.size hb1,by have:=hb1.size;omega⟩
   case measure=>simp[intOf];omega
  ·have hkb:(UD l big j==kind)=false:=by simpa using hk
   have HK:=QQ hk;clear hk;go_wp2;go_ret;exact⟨j,rfl,⟨hj0,HA.out,HK.out⟩,by rw[HN.out];omega,QW hbel hbel.size hb1⟩
theorem Wv(a:Option Addr)(n c:Nat)(l:List Int)(big:Bool)(k kind:Int)(w:World)(hl:Ints w a l)(hn:l.length=n)(hn2:n<=4096)(hk0: -1<=k)(hk1:k<=n)(hkind:0<=kind):
  Calls Tryz.prog 225 #[.agg #[.slice a n c,.bool big],.int .i64 k,.int .i64 (-1),.int .i64 kind] w (aO l big k kind w):=by
 have HN:=QQ hn;clear hn;go_enter Tryz.func225,Tryz.ntmps225
 go_wp2
 go_loopw [1] (fun v wr=>∃j:Int,v=.int .i64 j/\j<=k/\ -1<=j/\(∀i,j<i->i<=k->UD l big i=kind)/\QD wr w.heap.size #[.slice a n c,.bool big] 298/\Below w.heap.size w wr/\w.heap.size+1<=wr.heap.size) (fun v _=>(intOf v+1).toNat)
 case atStart=>exact⟨k,rfl,by omega,by omega,fun i h1 h2=>by omega,QD.new _ _ _,QC _ _,by simp⟩
 case round=>
  obtain⟨j,rfl,hj0,hj1,hall,hB,hbel,hsz⟩:=hrel;have HA:=QQ hall;clear hall;obtain⟨c0,c1,-,-⟩:=hB.two;go_wp2_with fail
  refine(UR a n c l big j wr (hl.below hbel) HN.out (by omega)).mono ?_;rintro e w1 ⟨rfl,hb1⟩;by_cases hk:UD l big j=kind
  ·have hkb:(UD l big j==kind)=true:=by simpa using hk
   have hjn:0<=j:=by
    rcases Zr j 0 with h|h
    ·rw[Js (.inl h)]at hk;omega
    ·exact h
   have HK:=QQ hk;clear hk;go_wp2;go_roundw
   case rel=>exact⟨j+ -1,rfl,by omega,by omega,fun i h1 h2=>by
    rcases Zr j i with h|h
    ·exact HA.out i h h2
    ·rw[show i=j from by omega];exact HK.out,hB.below hb1 (by omega),QW hbel hbel.size hb1,by have:=hb1.size;omega⟩
   case measure=>simp[intOf];omega
  ·have hkb:(UD l big j==kind)=false:=by simpa using hk
   have HK:=QQ hk;clear hk;go_wp2;go_ret;exact⟨j,rfl,⟨hj0,HA.out,HK.out⟩,by omega,QW hbel hbel.size hb1⟩
def yj(n:Nat)(k:Int):Int:=if 4096<n then 2 else if k<0\/(n:Int)<k then 1 else 0
theorem GV(a:Option Addr)(n c:Nat)(k:Int)(w:World):
  Calls Tryz.prog 224 #[.slice a n c,.int .i64 k] w fun e w'=>e=.returned (.int .i64 (yj n k))/\w=w':=by
 go_enter Tryz.func224,Tryz.ntmps224
 go_wp2
 all_goals(go_ret;refine⟨ZQ ?_,rfl⟩;unfold yj;(repeat' split)<;>first|rfl|omega)
def LQ(P:Int->Prop)(w:World)(e:Ending)(w':World):Prop:=∃r:Int,e=.returned (.tuple #[.int .i64 r,.int .i64 0])/\P r/\Below w.heap.size w w'
theorem Gz{n:Nat}{k:Int}(h:n<=4096)(h0:0<=k)(h1:k<=n):yj n k=0:=by
 unfold yj;rw[if_neg (by omega),if_neg (by omega)]
theorem Uy(a:Option Addr)(n c:Nat)(k:Int)(w:World)(h:n<=4096)(h0:0<=k)(h1:k<=n):
  Calls Tryz.prog 224 #[.slice a n c,.int .i64 k] w fun e w'=>e=.returned (.int .i64 0)/\w=w':=by
 have:=GV a n c k w
 rwa[Gz h h0 h1]at this
theorem Ao(a:Option Addr)(n c:Nat)(l:List Int)(big:Bool)(k:Int)(w:World)(hl:Ints w a l)(hn:l.length=n)(hn2:n<=4096)(hk0:0<=k)(hk1:k<=n):
  Calls Tryz.prog 307 #[.slice a n c,.int .i64 k,.bool big] w (LQ (Fv l big k) w):=by
 have HN:=QQ hn;clear hn;go_enter Tryz.func307,Tryz.ntmps307
 go_wp2_with fail
 refine(Uy a n c k w hn2 hk0 hk1).mono ?_;rintro e w' ⟨rfl,rfl⟩;go_wp2_with fail
 have hB0:=QD.new w #[.slice a n c,.bool big] 298;refine(UR a n c l big k _ (hl.below (QC _ _)) HN.out (by omega)).mono ?_;rintro e w1 ⟨rfl,hb1⟩;have hB1:=hB0.below hb1 hB0.lt;obtain⟨c0,c1,-,-⟩:=hB1.two;have Yz:=QW (QC w _) (by simp) hb1;by_cases hp:0<UD l big k
 ·go_wp2_with fail
  refine(J3 a n c l big k (UD l big k) w1 (hl.below Yz) HN.out hn2 hk0 (by omega) (by omega)).mono ?_;rintro e w2 ⟨r,rfl,hu,hr,hb2⟩;rw[HN.out]at hr;have hB2:=hB1.below hb2 hB1.lt;obtain⟨d0,d1,-,-⟩:=hB2.two;have Yk:=QW Yz Yz.size hb2;have HU:=QQ hu;have hkr:=hu.1;clear hu;go_wp2_with fail
  refine(J3 a n c l big r 0 w2 (hl.below Yk) HN.out hn2 (by omega) (by omega) (by omega)).mono ?_;rintro e w3 ⟨r2,rfl,hu2,hr2,hb3⟩;have HU2:=QQ hu2;clear hu2;go_wp2;go_ret2
  exact⟨r2,rfl,⟨r,.inl ⟨hp,HU.out⟩,HU2.out⟩,QW Yk Yk.size hb3⟩
 ·go_wp2_with fail
  refine(J3 a n c l big k 0 w1 (hl.below Yz) HN.out hn2 (by omega) (by omega) (by omega)).mono ?_;rintro e w3 ⟨r2,rfl,hu2,hr2,hb3⟩;have HU2:=QQ hu2;clear hu2;go_wp2;go_ret2
  exact⟨r2,rfl,⟨k,.inr ⟨by omega,rfl⟩,HU2.out⟩,QW Yz Yz.size hb3⟩
theorem keepW{B:Nat}{u v:Value}{w2 w' w'':World}(h:w'.cell? ⟨B,0,none⟩=some u/\w'.cell? ⟨B,1,none⟩=some v/\Below w2.heap.size w2 w')(hb:Below w'.heap.size w' w''):
  w''.cell? ⟨B,0,none⟩=some u/\w''.cell? ⟨B,1,none⟩=some v/\Below w2.heap.size w2 w'':=
 ⟨Qk hb _ _ h.1,Qk hb _ _ h.2.1,QW h.2.2 h.2.2.size hb⟩
theorem qx(a:Option Addr)(n c:Nat)(l:List Int)(big:Bool)(k:Int)(w:World)(hl:Ints w a l)(hn:l.length=n)(hn2:n<=4096)(hk0:0<=k)(hk1:k<=n):
  Calls Tryz.prog 199 #[.slice a n c,.int .i64 k,.bool big] w (LQ (Y5 l big k) w):=by
 have HN:=QQ hn;clear hn;go_enter Tryz.func199,Tryz.ntmps199
 go_wp2_with fail
 refine(Uy a n c k w hn2 hk0 hk1).mono ?_;rintro e w' ⟨rfl,rfl⟩;go_wp2_with fail
 have hB0:=QD.new w #[.slice a n c,.bool big] 298;refine(Wv a n c l big (k-1) 0 _ (hl.below (QC _ _)) HN.out (by omega) (by omega) (by omega) (by omega)).mono ?_;rintro e w1 ⟨k1,rfl,hu,hr,hb1⟩;have hB1:=hB0.below hb1 hB0.lt;obtain⟨c0,c1,-,-⟩:=hB1.two;have Yz:=QW (QC w _) (by simp) hb1;have HU:=QQ hu;have hkr:=hu.1;clear hu;by_cases hp:k1<0
 ·go_wp2
  go_ret2
  exact⟨0,rfl,⟨k1,HU.out,.inl ⟨hp,rfl⟩⟩,Yz⟩
 ·have hkk:0<=UD l big k1:=zi (by omega) (by rw[HN.out];omega)
  have hl1:=hl.below Yz;go_wp2_with fail
  go_region_held3 (fun w'=>w'.cell? ⟨w.heap.size,0,none⟩=some (.slice a n c)/\w'.cell? ⟨w.heap.size,1,none⟩=some (.bool big)/\Below w1.heap.size w1 w') (first|exact⟨c0,c1,(Qx _ _).drew⟩|assumption|exact keepW ‹_› ‹_›)
   (first|(go_at_call 226;refine(UR a n c l big k1 _ (hl1.below (Zy (Zy ‹_›))) HN.out (by omega)).mono ?_;rintro e w2 ⟨rfl,hb2⟩)|(go_at_call 225;refine(Wv a n c l big k1 (UD l big k1) _ (hl1.below (Zy (Zy ‹_›))) HN.out (by omega) (by omega) (by omega) hkk).mono ?_;rintro e w3 ⟨r,rfl,hu3,hr3,hb3⟩;have HU3:=QQ hu3;have hur:=hu3.1;clear hu3))
  all_goals
   go_wp2;go_ret2
   refine⟨r+1,qC (Zl _ (by omega)) rfl,⟨k1,HU.out,.inr ⟨by omega,?_⟩⟩,QW Yz Yz.size (Zy (Zy ‹_›))⟩;rw[show r+1-1=r from by omega];exact HU3.out
theorem Dc(a:Option Addr)(n c:Nat)(l:List Int)(big:Bool)(k:Int)(w:World)(hl:Ints w a l)(hn:l.length=n)(hn2:n<=4096)(hk0:0<=k)(hk1:k<=n):
  Calls Tryz.prog 308 #[.slice a n c,.int .i64 k,.bool big] w (LQ (MB l big k) w):=by
 have HN:=QQ hn;clear hn;go_enter Tryz.func308,Tryz.ntmps308
 go_wp2_with fail
 refine(Uy a n c k w hn2 hk0 hk1).mono ?_;rintro e w' ⟨rfl,rfl⟩;go_wp2_with fail
 have hB0:=QD.new w #[.slice a n c,.bool big] 298;refine(J3 a n c l big (k+1) 0 _ (hl.below (QC _ _)) HN.out (by omega) (by omega) (by omega) (by omega)).mono ?_;rintro e w1 ⟨k1,rfl,hu,hr,hb1⟩;have hB1:=hB0.below hb1 hB0.lt;obtain⟨c0,c1,-,-⟩:=hB1.two;have Yz:=QW (QC w _) (by simp) hb1;have HU:=QQ hu;have hkr:=hu.1;clear hu;rw[HN.out]at hr;by_cases hp:(n:Int)<=k1
 ·go_wp2
  all_goals
   go_ret2
   exact⟨max 0 ((n:Int)-1),qC (by omega) rfl,⟨k1,HU.out,.inl ⟨by rw[HN.out];exact hp,by rw[HN.out]⟩⟩,Yz⟩
 ·have hkk:0<=UD l big k1:=zi (by omega) (by rw[HN.out];omega)
  have hl1:=hl.below Yz;go_wp2_with fail
  go_region_held3 (fun w'=>w'.cell? ⟨w.heap.size,0,none⟩=some (.slice a n c)/\w'.cell? ⟨w.heap.size,1,none⟩=some (.bool big)/\Below w1.heap.size w1 w') (first|exact⟨c0,c1,(Qx _ _).drew⟩|assumption|exact keepW ‹_› ‹_›)
   (first|(go_at_call 226;refine(UR a n c l big k1 _ (hl1.below (Zy (Zy ‹_›))) HN.out (by omega)).mono ?_;rintro e w2 ⟨rfl,hb2⟩)|(go_at_call 225;refine(J3 a n c l big k1 (UD l big k1) _ (hl1.below (Zy (Zy ‹_›))) HN.out (by omega) (by omega) (by omega) hkk).mono ?_;rintro e w3 ⟨r,rfl,hu3,hr3,hb3⟩;have HU3:=QQ hu3;have hur:=hu3.1;clear hu3))
  all_goals
   rw[HN.out]at hr3;go_wp2;go_ret2
   refine⟨r-1,qC (Zl _ (by omega)) rfl,⟨k1,HU.out,.inr ⟨by rw[HN.out];omega,?_⟩⟩,QW Yz Yz.size (Zy (Zy ‹_›))⟩;rw[show r-1+1=r from by omega];exact HU3.out
def yS(l:List Int)(big:Bool)(i:Int):Bool:=UD l big i !=0&&(i==0 || UD l big (i-1) !=UD l big i)
def TL(l:List Int)(big:Bool)(i:Int):Bool:=UD l big i !=0&&UD l big (i+1) !=UD l big i
theorem Jz(l:List Int)(big:Bool)(i:Int):yS l big i=true↔UM l big i:=by simp[yS,UM]
theorem xY(l:List Int)(big:Bool)(i:Int):TL l big i=true↔Ends l big i:=by simp[TL,Ends]
def Q0(c:Int):Int:=if c=40 then 41 else if c=91 then 93 else if c=123 then 125 else if c=41 then 40 else if c=93 then 91 else if c=125 then 123 else 0
def Vy(c:Int):Bool:=if c=41 then true else if c=93 then true else if c=125 then true else false
def Xl(c:Int):Int:=if c=40\/c=41 then 40 else if c=91\/c=93 then 91 else if c=123\/c=125 then 123 else 0
def VK(c:Int):Int:=if c=40\/c=41 then 41 else if c=91\/c=93 then 93 else if c=123\/c=125 then 125 else 0
theorem WX(c:Int):c=40\/c=91\/c=123\/c=41\/c=93\/c=125\/(c≠40/\c≠91/\c≠123/\c≠41/\c≠93/\c≠125):=by omega
theorem Bn(c:Int):0<=Q0 c/\Q0 c<=125:=by
 unfold Q0;repeat' split
 all_goals omega
theorem Km(c:Int)(w:World):
  Calls Tryz.prog 306 #[.int .i64 c] w fun e w'=>e=.returned (.tuple #[.int .i64 (Q0 c),.bool (Vy c)])/\w=w':=by
 go_enter Tryz.func306,Tryz.ntmps306
 rcases WX c with rfl|rfl|rfl|rfl|rfl|rfl|⟨h1,h2,h3,h4,h5,h6⟩
 all_goals
  go_wp2;go_ret2
  refine⟨?_,rfl⟩
  first
  | rfl
  | simp[Q0,Vy,h1,h2,h3,h4,h5,h6]
theorem xJ(c:Int)(w:World):
  Calls Tryz.prog 309 #[.int .i64 c] w fun e w'=>e=.returned (.tuple #[.int .i64 (Q0 c),.bool (Vy c)])/\w=w':=by
 go_enter Tryz.func309,Tryz.ntmps309
 go_wp2_with fail
 refine(Km c w).mono ?_;rintro e w' ⟨rfl,rfl⟩;go_wp2;go_ret2
 exact⟨rfl,rfl⟩
def gz(l:List Int)(o s:Int)(i:Nat):Int:=(if ix l i=o then 1 else 0)-(if ix l i=s then 1 else 0)
def cnt(l:List Int)(o s:Int)(at':Nat->Nat):Nat->Int
 | 0=>0
 | t+1=>cnt l o s at' t+gz l o s (at' t)
def aN(l:List Int)(o s:Int)(at':Nat->Nat)(t:Nat):Prop:=ix l (at' t)=s/\cnt l o s at' (t+1)=0
def Ai(l:List Int)(o s:Int)(at':Nat->Nat)(m:Nat)(r:Int):Prop:=
 (∃t,t<m/\aN l o s at' t/\(∀t',t'<t->¬aN l o s at' t')/\r=(at' t:Int))\/((∀t,t<m->¬aN l o s at' t)/\r= -1)
end Go.Proofs.YtmdcencmiopmmaaGreat
namespace Go.Proofs.YtmdcencmiopmmaaGreat
open Go.RowKit Go.Maps
def Sw(v:Value):Option (DataW Value×List MemPlace):=some (.held v,[])
def R8:Value:=.slice none 0 0
def Kr(w:World)(b n:Nat)(f:Int->Value):Prop:=
 ∃D:DataW Value,w.ownsMap Tryz.prog 3 Sw b n D/\∀x,yT x->D.atKey (.int .i64 x) (.held R8)=.held (f x)
theorem jr:Maps.Keyed Tryz.prog 3:=Maps.int_keyed Tryz.underlying3
theorem Kr.kept{w w':World}{b n:Nat}{f:Int->Value}{row:Option Nat}(h:Kr w b n f)(hg:w.grownBy w' row)(hne:some b≠row):Kr w' b n f:=by
 obtain⟨D,h1,h2⟩:=h;exact⟨D,h1.kept hg hne,h2⟩
theorem Kr.alloc{w:World}{b n:Nat}{f:Int->Value}(h:Kr w b n f)(o:Obj):Kr (w.alloc o) b n f:=by
 obtain⟨D,h1,h2⟩:=h;exact⟨D,h1.alloc o,h2⟩
theorem Kr.lt{w:World}{b n:Nat}{f:Int->Value}(h:Kr w b n f):b<w.heap.size:=by
 obtain⟨D,h1,h2⟩:=h;exact h1.lt
theorem Kr.made(w:World):Kr (w.alloc (.map #[] 0)) w.heap.size 0 (fun _=>R8):=by
 refine⟨_,World.ownsMap_made w _ _ _,fun x _=>?_⟩;rfl
theorem Hd{x:Int}(h:yT x):keyOf Tryz.prog 3 (.int .i64 x)=some (.int .i64 x):=Maps.keyOf_int_mk Tryz.underlying3 (by simpa[Lit.wf,IntKind.min,IntKind.max,IntKind.signed,IntKind.bits,yT]using h)
theorem Kr.lookup{w:World}{b n:Nat}{f:Int->Value}(h:Kr w b n f)(hz:(zeroValue 26).run Tryz.prog w=.ok R8 w){x:Int}(hx:yT x):
  (Instr.lookup 377 (.map (some b)) (.int .i64 x) false).run Tryz.prog w=.ok (f x) w:=by
 obtain⟨D,h1,h2⟩:=h;obtain⟨v,ps,hrun,hv⟩:=h1.lookup jr Tryz.underlying377 hz rfl (Hd hx);rw[h2 x hx]at hv;simp only[Sw,Qv,YQ,DataW.held.injEq]at hv;rw[hrun,hv.1]
theorem Kr.update{w:World}{b n:Nat}{f:Int->Value}(h:Kr w b n f)(hn:n<=1000000000){x:Int}(hx:yT x)(val:Value):
  ∃w',(Instr.mapUpdate 377 (.map (some b)) (.int .i64 x) val).run Tryz.prog w=.ok () w'/\Kr w' b (n+1) (fun y=>if y=x then val else f y)/\w.grownBy w' (some b):=by
 obtain⟨D,h1,h2⟩:=h;obtain⟨w',hrun,h3,h4⟩:=h1.update jr Tryz.underlying377 (by unfold maxLen;omega) (Hd hx) (show Sw val=some (.held val,[])from rfl);refine⟨w',hrun,⟨_,h3,fun y hy=>?_⟩,h4⟩;show _=DataW.held (if y=x then val else f y);by_cases e:y=x
 ·subst e
  rw[if_pos rfl];obtain⟨es,clock,_,_,_,hD⟩:=h1;exact atKey_put_same ⟨_,hD⟩ (jr.key (Hd hx)) _ _
 ·rw[if_neg e,<-h2 y hy]
  exact atKey_put_other (fun hh=>e (by simpa using hh)) _ _
end Go.Proofs.YtmdcencmiopmmaaGreat
namespace Go.Proofs.YtmdcencmiopmmaaGreat
open Go.RowKit
structure PSt where
 out:List Int
 YM:Int->List Int
def J7(c:Int)(i:Nat)(s:PSt):PSt:=
 let out:=s.out.set i (-1)
 if Q0 c=0 then⟨out,s.YM⟩
 else if Vy c=false then⟨out,fun y=>if y=c then s.YM c++[(i:Int)]else s.YM y⟩
 else if s.YM (Q0 c)=[]then⟨out,s.YM⟩
 else⟨(out.set i (ix (s.YM (Q0 c)) ((s.YM (Q0 c)).length-1))).set (ix (s.YM (Q0 c)) ((s.YM (Q0 c)).length-1)).toNat (i:Int),
    fun y=>if y=Q0 c then(s.YM (Q0 c)).dropLast else s.YM y⟩
def YO(l:List Int)(n:Nat):Nat->PSt
 | 0=>⟨List.replicate n 0,fun _=>[]⟩
 | i+1=>J7 (ix l i) i (YO l n i)
theorem NA(c:Int)(i:Nat)(s:PSt):(J7 c i s).out.length=s.out.length:=by
 unfold J7;dsimp only;repeat' split
 all_goals simp
theorem VT(l:List Int)(n i:Nat):(YO l n i).out.length=n:=by
 induction i with
 | zero=>simp[YO]
 | succ i ih=>simp only[YO];rw[NA,ih]
theorem bB(w:World):(zeroValue 26).run Tryz.prog w=.ok R8 w:=by kernel_rfl
end Go.Proofs.YtmdcencmiopmmaaGreat
namespace Go.Proofs.YtmdcencmiopmmaaGreat
def Xy(l:List Int)(o s:Int):Nat->Int
 | 0=>0
 | i+1=>Xy l o s i+gz l o s i
theorem Ia(l:List Int)(o s:Int)(k t:Nat):cnt l o s (fun t=>k+t) t=Xy l o s (k+t)-Xy l o s k:=by
 induction t with
 | zero=>simp[cnt]
 | succ t ih=>simp only[cnt];rw[ih,show k+(t+1)=(k+t)+1 from rfl];simp only[Xy];omega
theorem TS(l:List Int)(o s:Int)(i:Nat):gz l s o i= -gz l o s i:=by unfold gz;omega
theorem uX(l:List Int)(o s:Int)(k t:Nat)(h:t<=k+1):cnt l s o (fun t=>k-t) t=Xy l o s (k+1-t)-Xy l o s (k+1):=by
 induction t with
 | zero=>simp[cnt]
 | succ t ih=>
  have ih:=ih (by omega);simp only[cnt];rw[ih,TS,show k+1-t=(k-t)+1 from by omega,show k+1-(t+1)=k-t from by omega];simp only[Xy];omega
structure Match (l:List Int) (o s:Int) (p i:Nat):Prop where
 lt:p<i
 opener:ix l p=o
 closer:ix l i=s
 above:∀b,p<b->b<=i->Xy l o s p+1<=Xy l o s b
 meets:Xy l o s (i+1)=Xy l o s p
theorem Match.up{l:List Int}{o s:Int}{p i n:Nat}(h:Match l o s p i)(hi:i<n):Ai l o s (fun t=>p+t) (n-p) (i:Int):=by
 have hlt:=h.lt;refine .inl ⟨i-p,by omega,⟨?_,?_⟩,fun t ht he=>?_,by show _=((p+(i-p):Nat):Int);omega⟩
 ·show ix l (p+(i-p))=s;rw[show p+(i-p)=i from by omega];exact h.closer
 ·rw[Ia,show p+(i-p+1)=i+1 from by omega,h.meets];omega
 ·have h1:=he.2;rw[Ia]at h1
  have:=h.above (p+(t+1)) (by omega) (by omega);omega
theorem Match.down{l:List Int}{o s:Int}{p i:Nat}(h:Match l o s p i):Ai l s o (fun t=>i-t) (i+1) (p:Int):=by
 have hlt:=h.lt;refine .inl ⟨i-p,by omega,⟨?_,?_⟩,fun t ht he=>?_,by show _=((i-(i-p):Nat):Int);omega⟩
 ·show ix l (i-(i-p))=o;rw[show i-(i-p)=p from by omega];exact h.opener
 ·rw[uX l o s _ _ (by omega),show i+1-(i-p+1)=p from by omega,h.meets];omega
 ·have h1:=he.2;rw[uX l o s _ _ (by omega),h.meets]at h1
  have:=h.above (i+1-(t+1)) (by omega) (by omega);omega
theorem eQ{l:List Int}{o s:Int}{p n:Nat}(h:∀b,p<b->b<=n->Xy l o s p+1<=Xy l o s b)(hp:p<n):Ai l o s (fun t=>p+t) (n-p) (-1):=by
 refine .inr ⟨fun t ht he=>?_,rfl⟩;have h1:=he.2;rw[Ia]at h1;have:=h (p+(t+1)) (by omega) (by omega);omega
theorem NP{l:List Int}{o s:Int}{i:Nat}(h:∀a,a<=i->Xy l o s (i+1)+1<=Xy l o s a):Ai l s o (fun t=>i-t) (i+1) (-1):=by
 refine .inr ⟨fun t ht he=>?_,rfl⟩;have h1:=he.2;rw[uX l o s _ _ (by omega)]at h1;have:=h (i+1-(t+1)) (by omega);omega
end Go.Proofs.YtmdcencmiopmmaaGreat
