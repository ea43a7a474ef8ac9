/- joined, no condition of its own. -/
import Derived.Test.YtmdcencmiopmmaaGreatJnT
import Derived.Test.YtmdcencmiopmmaaGreatJnJ1
import Derived.Test.YtmdcencmiopmmaaGreatJnJ2
set_option linter.unusedVariables false
set_option linter.unusedSimpArgs false
set_option maxRecDepth 100000
set_option maxHeartbeats 12000000
namespace Go.Proofs.YtmdcencmiopmmaaGreat
open Go.RowKit
def qV(a:Option Addr)(c k:Nat):Option Addr:=if c=k then a else a.map (·.add (k*1))
theorem VQ{a:Option Addr}{c k:Nat}(h:qV a c k=none):a=none:=by
 unfold qV at h;split at h
 ·exact h
 ·cases a<;>simp_all
theorem Ints.Ai{w:World}{a:Option Addr}{xs:List Int}{c:Nat}(h:Ints w a xs)(lo hi:Nat)(hc:xs.length<=c)(hl:lo<=hi)(hh:hi<=xs.length):Ints w (qV a c lo) ((xs.take hi).drop lo):=by
 unfold qV;by_cases hk:c=lo
 ·refine .inl ?_
  rw[List.drop_eq_nil_iff,Zp];omega
 ·rw[if_neg hk]
  rcases a with _|ad
  ·rcases h with rfl|⟨b,o,ha,_⟩
   ·exact .inl QJ
   ·simp at ha
  ·simp only[Nat.mul_one,Option.map_some]
   exact(h.take hi).tN lo
theorem Ints.eu{w:World}{a:Option Addr}{xs:List Int}{c:Nat}(h:Ints w a xs)(lo:Nat)(hc:xs.length<=c)(hl:lo<=xs.length):Ints w (qV a c lo) (xs.drop lo):=by
 have:=h.Ai lo xs.length hc hl (ZB _)
 rwa[List.take_length]at this
theorem zy(a:Option Addr)(n c lo hi:Nat)(h1:lo<=hi)(h2:hi<=c)(w:World):
  (Instr.slice 26 (.slice a n c) (some (.int .i64 (lo:Int))) (some (.int .i64 (hi:Int))) none).run Tryz.prog w=.ok (.slice (qV a c lo) (hi-lo) (c-lo)) w:=by
 obtain⟨i0,hi0,hz0,hz1,hz2⟩:=Xf JI;have b1:(0:Int)<=(lo:Int)/\(lo:Int)<=(hi:Int):=QQ;have b2:(0:Int)<=(hi:Int)/\(hi:Int)<=(c:Int):=QQ;simp[Instr.slice,Instr.sliceBounds,Instr.sliceBound,asIntOf,Yn Tryz.underlying26,sizeOf,typeInfo,hi0,hz1,b1,b2,go_sem,qV,h1,h2]
theorem kJ(a:Option Addr)(n c lo:Nat)(h1:lo<=n)(w:World):
  (Instr.slice 26 (.slice a n c) (some (.int .i64 (lo:Int))) none none).run Tryz.prog w=.ok (.slice (qV a c lo) (n-lo) (c-lo)) w:=by
 obtain⟨i0,hi0,hz0,hz1,hz2⟩:=Xf JI;have b1:(0:Int)<=(lo:Int)/\(lo:Int)<=(n:Int):=QQ;simp[Instr.slice,Instr.sliceBounds,Instr.sliceBound,asIntOf,Yn Tryz.underlying26,sizeOf,typeInfo,hi0,hz1,b1,go_sem,qV,h1]
theorem xq(a:Option Addr)(n c hi:Nat)(h2:hi<=c)(w:World):
  (Instr.slice 26 (.slice a n c) none (some (.int .i64 (hi:Int))) none).run Tryz.prog w=.ok (.slice a hi c) w:=by
 obtain⟨i0,hi0,hz0,hz1,hz2⟩:=Xf JI;have b2:(0:Int)<=(hi:Int)/\(hi:Int)<=(c:Int):=QQ;simp[Instr.slice,Instr.sliceBounds,Instr.sliceBound,asIntOf,Yn Tryz.underlying26,sizeOf,typeInfo,hi0,hz1,b2,go_sem,h2]
inductive SH {α β:Type} (R:α->β->Prop):List α->List β->Prop
 | nil:SH R [] []
 | cons {a:α} {b:β} {l:List α} {m:List β} (h:R a b) (t:SH R l m):SH R (a::l) (b::m)
structure SV where
 f:Int
 t:Int
 a:Option Addr
 n:Nat
 c:Nat
def SV.cells(s:SV):List Value:=[.int .i64 s.f,.int .i64 s.t,.slice s.a s.n s.c]
def SV.is(w:World)(base:Nat)(s:SV)(p:Sp):Prop:=s.f=p.f/\s.t=p.t/\Own 3 base w (.slice s.a s.n s.c) p.x
def Uo(base:Nat)(w:World)(v:Value)(us:List SV)(es:List Sp):Prop:=
 w.ownsRow base 337 3 v es.length (us.flatMap SV.cells)/\SH (SV.is w base) us es
theorem SV.is.imp{w w':World}{base base':Nat}{s:SV}{p:Sp}(h:SV.is w base s p)(hk:Own 3 base w (.slice s.a s.n s.c) p.x->Own 3 base' w' (.slice s.a s.n s.c) p.x):SV.is w' base' s p:=⟨h.1,h.2.1,hk h.2.2⟩
theorem VS{α β:Type}{R S:α->β->Prop}{l:List α}{m:List β}(h:SH R l m)(hi:∀a b,R a b->S a b):SH S l m:=by
 induction h with
 | nil=>exact .nil
 | cons h _ ih=>exact .cons (hi _ _ h) ih
theorem Uo.nil(base:Nat)(w:World):Uo base w (.slice none 0 0) [] []:=⟨YR _ _ _ _,.nil⟩
theorem Uo.mono{base base':Nat}{w:World}{v:Value}{us:List SV}{es:List Sp}(h:Uo base w v us es)(hb:base'<=base):Uo base' w v us es:=by
 refine⟨⟨h.1.1,?_⟩,VS h.2 fun _ _ hh=>hh.imp fun k=>k.mono hb⟩;rcases h.1.2 with hn|⟨g,cap,cur,rfl,hb',rest⟩
 ·exact .inl hn
 ·exact .inr ⟨g,cap,cur,rfl,QQ,rest⟩
theorem Uo.kept{base:Nat}{w w':World}{v:Value}{us:List SV}{es:List Sp}(h:Uo base w v us es)(hb:Below w.heap.size w w'):Uo base w' v us es:=by
 refine⟨⟨h.1.1,?_⟩,VS h.2 fun _ _ hh=>hh.imp fun k=>k.kept hb⟩;rcases h.1.2 with hn|⟨g,cap,cur,rfl,hb',hgg,rest⟩
 ·exact .inl hn
 ·exact .inr ⟨g,cap,cur,rfl,hb',QAJ,rest⟩
theorem Uo.form{base:Nat}{w:World}{v:Value}{us:List SV}{es:List Sp}(h:Uo base w v us es):∃a c,v=.slice a es.length c/\es.length<=c/\c<=9223372036854775807/\(a=none->es.length=0):=by
 rcases h.1.2 with⟨rfl,h0⟩|⟨g,cap,cur,rfl,hb',hgg,hn,hm,rest⟩
 ·exact⟨none,0,by rw[h0],QQ,QQ,fun _=>h0⟩
 ·exact⟨_,cap,rfl,hn,QAE,QJ⟩
def FF(l m:List Int)(k:Nat):Prop:=k<=l.length/\k<=m.length/\(∀i,i<k->ix l i=ix m i)/\(k=l.length\/k=m.length\/ix l k≠ix m k)
def fu(l m:List Int)(k j:Nat):Prop:=j+k<=l.length/\j+k<=m.length/\(∀i,i<j->ix l (l.length-1-i)=ix m (m.length-1-i))/\(j+k=l.length\/j+k=m.length\/ix l (l.length-1-j)≠ix m (m.length-1-j))
theorem FF.one{l m:List Int}{a b:Nat}(h:FF l m a)(h':FF l m b):a=b:=by
 exact QEZ
theorem fu.one{l m:List Int}{k a b:Nat}(h:fu l m k a)(h':fu l m k b):a=b:=by
 exact QEZ
theorem FF.full{l m:List Int}{k:Nat}(h:FF l m k)(h1:k=l.length)(h2:k=m.length):l=m:=
 zt QQ fun i hi=>h.2.2.1 i QQ
theorem FF.same{l:List Int}{k:Nat}(h:FF l l k):k=l.length:=by
 rcases h.2.2.2 with h|h|h
 ·exact h
 ·exact h
 ·exact absurd rfl h
def BtP(l m:List Int)(es:List Sp):Prop:=(l=m/\es=[])\/(l≠m/\∃k j,FF l m k/\fu l m k j/\es=[⟨(k:Int),((l.length-j:Nat):Int),(m.take (m.length-j)).drop k⟩])
theorem BtP.one{l m:List Int}{a b:List Sp}(h:BtP l m a)(h':BtP l m b):a=b:=by
 rcases h with⟨h1,rfl⟩|⟨h1,k,j,p,s,rfl⟩<;>rcases h' with⟨h2,rfl⟩|⟨h2,k',j',p',s',rfl⟩
 ·rfl
 ·exact absurd h1 h2
 ·exact absurd h2 h1
 ·obtain rfl:=p.one p'
  obtain rfl:=s.one s';rfl
def BZ(l m:List Int)(w:World)(e:Ending)(w':World):Prop:=∃v us es,e=.returned (.tuple #[v,.int .i64 0])/\Uo w.heap.size w' v us es/\BtP l m es/\Below w.heap.size w w'
theorem BZ.no{l m:List Int}{w w':World}(h:l=m)(hb:Below w.heap.size w w'):BZ l m w (.returned (.tuple #[.slice none 0 0,.int .i64 0])) w':=⟨_,[],[],rfl,Uo.nil _ _,.inl ⟨h,rfl⟩,hb⟩
theorem Td{w:World}{base:Nat}{u:SV}{p:Sp}(hb:base<=w.heap.size)(h:SV.is w base u p):Uo base (w.alloc (.cells u.cells.toArray 337)) (.slice (some ⟨w.heap.size,0,none⟩) 1 1) [u] [p]:=by
 refine⟨⟨by simp[SV.cells],.inr ⟨w.heap.size,1,u.cells.toArray,rfl,hb,heap_alloc_new w _,QJ,Qo,by simp[SV.cells],by simp[SV.cells]⟩⟩,.cons (h.imp fun k=>k.alloc _) .nil⟩
theorem uw(la ma:Option Addr)(n c p mc:Nat)(l m:List Int)(w:World)(hl:Ints w la l)(hm:Ints w ma m)(hn:l.length=n)(hp:m.length=p)(hn2:n<=4096)(hp2:p<=4096)(hmc:p<=mc)(h0:ma=none->p=0):
  Calls Tryz.prog 293 #[.slice la n c,.slice ma p mc] w (BZ l m w):=by
 have HN:=Zy hn;have HP:=Zy hp;have H0:=Zy h0;clear hn hp h0;obtain⟨N,hN1,RO,nA⟩:∃N,N<=n/\N<=p/\(n<=N\/p<=N):=⟨min n p,QQ,QQ,QQ⟩;go_enter Tryz.func293,Tryz.ntmps293
 go_upto_region 4 with fail
 go_cut [6,7] (fun v u wx=>v=.int .i64 (N:Int)/\u=.int .i64 0/\w=wx)
 case first=>
  rcases XC n p with hlt|hlt|hlt
  ·obtain rfl:n=N:=by omega
   exact QC9
  ·obtain rfl:n=N:=by omega
   obtain rfl:n=p:=hlt;go_wp2
   all_goals
    exact QDU
  ·obtain rfl:p=N:=by omega
   exact QC9
 obtain⟨rfl,rfl,rfl⟩:=hcut;go_upto_block 0 with fail
 go_cut [7] (fun v wx=>∃k:Nat,v=.int .i64 (k:Int)/\k<=N/\Hid (FF l m k)/\∃q,wx=w.drewN q)
 case first=>
  go_wp2
  go_loopw [7] (fun v wr=>∃k:Nat,v=.int .i64 (k:Int)/\k<=N/\(∀i,i<k->ix l i=ix m i)/\∃q,wr=w.drewN q) (fun v _=>N-(intOf v).toNat)
  case atStart=>exact⟨0,rfl,QQ,fun i hi=>QQ,0,rfl⟩
  case round=>
   obtain⟨k,rfl,hk,hsame,q,rfl⟩:=hrel;have HS:=Zy hsame;clear hsame;by_cases hlt:k<N
   ·obtain⟨b1,o1,rfl,hc1⟩:=hl.at (k:=k) QB
    obtain⟨b2,o2,rfl,hc2⟩:=hm.at (k:=k) Zz;have c1:=hc1 k QB;have c2:=hc2 k Zz;have i0:decide (k<N)=true:=QY;have i1:(k:Int)<(n:Int):=QQ;have i2:(k:Int)<(p:Int):=QQ;clear hc1 hc2 hl hm;by_cases he:ix l k=ix m k
    ·have g1:(ix l k==ix m k)=true:=by simpa using he
     have HE:=Zy he;clear he;go_wp2
     go_quiet (fail)
     go_wp2;go_roundw
     case rel=>
      refine⟨k+1,Qk,QQ,fun i hi=>?_,_,QL⟩;by_cases h:i=k
      ·rw[h];exact HE.out
      ·exact HS.out i QQ
     case measure=>simp[intOf];omega
    ·have g1:(ix l k==ix m k)=false:=by simpa using he
     have HE:=Zy he;clear he;go_wp2
     go_quiet (fail)
     go_wp2;go_meet;exact⟨k,rfl,QQ,Zy ⟨QB,Zz,HS.out,.inr (.inr HE.out)⟩,_,QL⟩
   ·obtain rfl:N=k:=by omega
    have i0:decide (N<N)=false:=QJ;go_wp2
    go_quiet (fail)
    go_wp2;go_meet;exact⟨N,rfl,QQ,Zy ⟨QB,Zz,HS.out,by rw[HN.out,HP.out];omega⟩,_,QL⟩
 obtain⟨k,rfl,hk,TY,q,rfl⟩:=hcut;go_upto_block 2 with fail
 go_cut [8] (fun v wx=>∃j:Nat,v=.int .i64 (j:Int)/\j+k<=N/\Hid (fu l m k j)/\∃q,wx=w.drewN q)
 case first=>
  go_wp2
  go_loopw [8] (fun v wr=>∃j:Nat,v=.int .i64 (j:Int)/\j+k<=N/\(∀i,i<j->ix l (l.length-1-i)=ix m (m.length-1-i))/\∃q,wr=w.drewN q) (fun v _=>N-(intOf v).toNat)
  case atStart=>exact⟨0,rfl,QQ,fun i hi=>QQ,q,rfl⟩
  case round=>
   obtain⟨j,rfl,hj,hsame,q,rfl⟩:=hrel;have HS:=Zy hsame;clear hsame;have iw1:IntKind.i64.wrap ((N:Int)-(k:Int))=(N:Int)-(k:Int):=YQ _ QQ;by_cases hlt:j+k<N
   ·obtain⟨b1,o1,rfl,hc1⟩:=hl.at (k:=n-1-j) QB
    obtain⟨b2,o2,rfl,hc2⟩:=hm.at (k:=p-1-j) Zz;have c1:=hc1 (n-1-j) QB;have c2:=hc2 (p-1-j) Zz;have i0:decide ((j:Int)<(N:Int)-(k:Int))=true:=QY;have i1:(n:Int)-1-(j:Int)<(n:Int):=QQ;have i2:(p:Int)-1-(j:Int)<(p:Int):=QQ;have i3:(0:Int)<=(n:Int)-1-(j:Int):=QQ;have i4:(0:Int)<=(p:Int)-1-(j:Int):=QQ;have i5:((n:Int)-1-(j:Int)).toNat=n-1-j:=QQ;have i6:((p:Int)-1-(j:Int)).toNat=p-1-j:=QQ;have iw2:IntKind.i64.wrap ((n:Int)-1)=(n:Int)-1:=YQ _ QQ;have iw3:IntKind.i64.wrap ((p:Int)-1)=(p:Int)-1:=YQ _ QQ;have iw4:IntKind.i64.wrap ((n:Int)-1-(j:Int))=(n:Int)-1-(j:Int):=YQ _ QQ;have iw5:IntKind.i64.wrap ((p:Int)-1-(j:Int))=(p:Int)-1-(j:Int):=YQ _ QQ;clear hc1 hc2 hl hm;by_cases he:ix l (n-1-j)=ix m (p-1-j)
    ·have g1:(ix l (n-1-j)==ix m (p-1-j))=true:=by simpa using he
     have HE:=Zy he;clear he;go_wp2
     go_quiet (fail)
     clear iw1 iw2 iw3 iw4 iw5 i5 i6;go_wp2;go_roundw
     case rel=>
      refine⟨j+1,Qk,QQ,fun i hi=>?_,_,QL⟩;by_cases h:i=j
      ·rw[h,HN.out,HP.out];exact HE.out
      ·exact HS.out i QQ
     case measure=>simp[intOf];omega
    ·have g1:(ix l (n-1-j)==ix m (p-1-j))=false:=by simpa using he
     have HE:=Zy he;clear he;go_wp2
     go_quiet (fail)
     clear iw1 iw2 iw3 iw4 iw5 i5 i6;go_wp2;go_meet;exact⟨j,rfl,QQ,Zy ⟨QB,Zz,HS.out,.inr (.inr (by rw[HN.out,HP.out];exact HE.out))⟩,_,QL⟩
   ·have i0:decide ((j:Int)<(N:Int)-(k:Int))=false:=by simp;omega
    go_wp2
    go_quiet (fail)
    clear iw1;go_wp2;go_meet;exact⟨j,rfl,QQ,Zy ⟨QB,Zz,HS.out,by rw[HN.out,HP.out];omega⟩,_,QL⟩
 obtain⟨j,rfl,hj,HSU,q,rfl⟩:=hcut;by_cases heq:k=n/\k=p
 ·obtain⟨rfl,rfl⟩:=heq
  go_wp2;go_ret2
  exact BZ.no (TY.out.full HN.out.symm HP.out.symm) (below_drewN (ZH _ _) _)
 ·have hne:l≠m:=by
   rintro rfl;have h1:=TY.out.same;have h2:=HN.out;have h3:=HP.out;omega
  have HNE:=Zy hne;have hcr:=zy ma p mc k (p-j) QQ QQ;have kX:=(hm.drewN q).Ai (c:=mc) k (p-j) Zz QQ Zz;have HCL:=Zy (show((m.take (p-j)).drop k).length=p-j-k by rw[Xy,Zp,HP.out];omega);have HC0:=Zy (show qV ma mc k=none->p-j-k=0 from fun h=>by have:=H0.out (VQ h);omega);have ie1:(p:Int)-(j:Int)=((p-j:Nat):Int):=QQ;have ie2:(n:Int)-(j:Int)=((n-j:Nat):Int):=QQ;clear hne H0;have hfin:∀a8 n8 c8 w8,Own 3 (w.drewN q).heap.size w8 (.slice a8 n8 c8) ((m.take (p-j)).drop k)->Below (w.drewN q).heap.size (w.drewN q) w8->
    BZ l m w (.returned (.tuple #[.slice (some ⟨w8.heap.size,0,none⟩) 1 1,.int .i64 0])) (w8.alloc (.cells #[.int .i64 (k:Int),.int .i64 ((n-j:Nat):Int),.slice a8 n8 c8] 337)):=by
   intro a8 n8 c8 w8 o8 XF;have Jv:Below w.heap.size w w8:=ZE (below_drewN (ZH _ _) q) (ZB _) XF;have hs:=Td (w:=w8) (base:=w.heap.size) (u:=⟨(k:Int),((n-j:Nat):Int),a8,n8,c8⟩) (p:=⟨(k:Int),((n-j:Nat):Int),(m.take (p-j)).drop k⟩) Jv.size ⟨rfl,rfl,o8⟩;exact⟨_,_,_,rfl,hs,.inr ⟨HNE.out,k,j,TY.out,HSU.out,by rw[HN.out,HP.out]⟩,Jv.alloc Jv.size _⟩
  have HF:=Zy hfin;clear hfin;rcases(show k=n\/k≠n from QQ)with kn|kn
  ·obtain rfl:k=n:=kn
   have g:((k:Int)==(p:Int))=false:=by rw[XZ];omega
   clear heq;exact QEz
  ·have g:((k:Int)==(n:Int))=false:=by rw[XZ];omega
   clear heq kn;exact QEz
end Go.Proofs.YtmdcencmiopmmaaGreat
namespace Go.Proofs.YtmdcencmiopmmaaGreat
def Xt(c:Int)(big:Bool):Int:=
 if c=32\/c=9 then 0 else if big=true\/(97<=c/\c<=122)\/(65<=c/\c<=90)\/(48<=c/\c<=57)\/c=95\/128<=c then 1 else 2
theorem kQ(c:Int)(big:Bool):0<=Xt c big/\Xt c big<=2:=by unfold Xt;(repeat' split)<;>omega
def Vp(l:List Int)(big:Bool)(k:Int):Int:=if k<0\/l.length<=k then-1 else Xt (ix l k.toNat) big
theorem UL{l:List Int}{big:Bool}{k:Int}(h:k<0\/l.length<=k):Vp l big k= -1:=if_pos h
theorem bf{l:List Int}{big:Bool}{k:Int}(h0:0<=k)(h:k<l.length):Vp l big k=Xt (ix l k.toNat) big:=if_neg QQ
theorem jG{l:List Int}{big:Bool}{k:Int}(h0:0<=k)(h:k<l.length):0<=Vp l big k:=by rw[bf h0 h];exact(kQ _ _).1
def A9(l:List Int)(big:Bool)(k kind r:Int):Prop:=k<=r/\(∀j,k<=j->j<r->Vp l big j=kind)/\Vp l big r≠kind
def Aw(l:List Int)(big:Bool)(k kind r:Int):Prop:=r<=k/\(∀j,r<j->j<=k->Vp l big j=kind)/\Vp l big r≠kind
def V8(l:List Int)(big:Bool)(i:Int):Prop:=Vp l big i≠0/\(i=0\/Vp l big (i-1)≠Vp l big i)
def Ends(l:List Int)(big:Bool)(i:Int):Prop:=Vp l big i≠0/\Vp l big (i+1)≠Vp l big i
def Il(l:List Int)(big:Bool)(k r:Int):Prop:=
 ∃k1,(0<Vp l big k/\A9 l big k (Vp l big k) k1\/¬0<Vp l big k/\k1=k)/\A9 l big k1 0 r
def KH(l:List Int)(big:Bool)(k r:Int):Prop:=
 ∃k1,Aw l big (k-1) 0 k1/\(k1<0/\r=0\/0<=k1/\Aw l big k1 (Vp l big k1) (r-1))
def Oi(l:List Int)(big:Bool)(k r:Int):Prop:=
 ∃k1,A9 l big (k+1) 0 k1/\(l.length<=k1/\r=max 0 ((l.length:Int)-1)\/k1<l.length/\A9 l big k1 (Vp l big k1) (r+1))
def Om(l:List Int)(big:Bool)(k r:Int):Prop:=
 (k<r/\r<l.length/\V8 l big r\/r=l.length)/\∀j,k<j->j<r->j<l.length->¬V8 l big j
def Oo(l:List Int)(big:Bool)(k r:Int):Prop:=
 (0<r/\r<k/\V8 l big r\/r=0)/\∀j,r<j->j<k->0<j->¬V8 l big j
def fD(l:List Int)(big:Bool)(k r:Int):Prop:=
 (k<r/\r<l.length/\Ends l big r/\∀j,k<j->j<r->¬Ends l big j)\/(r=max 0 ((l.length:Int)-1)/\∀j,k<j->j<l.length->¬Ends l big j)
theorem P7{l:List Int}{big:Bool}{k r r':Int}(h0:0<=k)(hk:k<=l.length)(h:Il l big k r)(h':Om l big k r'):r=r':=by
 obtain⟨k1,h1,hu,hz,hne⟩:=h;have hr:r<=l.length:=by
  rcases YU l.length r with hlt|hle
  ·by_cases hk1:k1<=l.length
   ·have:=hz l.length hk1 hlt
    rw[UL (.inr (Int.le_refl _))]at this;omega
   ·rcases h1 with⟨hp,hu1,hs,hn1⟩|⟨_,rfl⟩
    ·have:=hs l.length hk QQ
     rw[UL (.inr (Int.le_refl _))]at this;omega
    ·omega
  ·exact hle
 have hk1:k<=k1:=by rcases h1 with⟨_,hu1,_⟩|⟨_,rfl⟩<;>omega
 have hno:∀j,k<j->j<r->¬V8 l big j:=by
  intro j hj hj2 hb;by_cases hjk:k1<=j
  ·exact hb.1 (hz j hjk hj2)
  ·rcases h1 with⟨hp,hu1,hs,hn1⟩|⟨_,rfl⟩
   ·rcases hb.2 with h|h
    ·omega
    ·exact h (by rw[hs (j-1) QQ QQ,hs j QQ QQ])
   ·omega
 have Me:r<l.length->k<r/\V8 l big r:=by
  intro hlt;have hkr:k<r:=by
   rcases h1 with⟨hp,hu1,hs,hn1⟩|⟨hp,rfl⟩
   ·rcases YU k k1 with h|h
    ·omega
    ·have:k1=k:=by omega
     subst this;exact absurd rfl hn1
   ·rcases YU k1 r with h|h
    ·exact h
    ·have:k1=r:=by omega
     subst this;have:=jG (l:=l) (big:=big) h0 hlt;omega
  refine⟨hkr,hne,.inr ?_⟩;rcases YU k1 r with h|h
  ·rw[hz (r-1) QQ QQ];exact fun e=>hne e.symm
  ·have QWA:k1=r:=by omega
   subst QWA;rcases h1 with⟨hp,hu1,hs,hn1⟩|⟨hp,rfl⟩
   ·rw[hs (k1-1) QQ QQ];exact fun e=>hn1 e.symm
   ·omega
 obtain⟨h1',h2'⟩:=h';rcases Int.lt_trichotomy r r' with hlt|rfl|hgt
 ·exfalso
  have hrl:r<l.length:=by rcases h1' with⟨_,h,_⟩|h<;>omega
  exact h2' r (Me hrl).1 hlt hrl (Me hrl).2
 ·rfl
 ·exfalso
  rcases h1' with⟨ha,hb,hc⟩|h
  ·exact hno r' ha hgt hc
  ·omega
theorem Dq{l:List Int}{big:Bool}{k r r':Int}(h0:0<=k)(hk:k<=l.length)(h:KH l big k r)(h':Oo l big k r'):r=r':=by
 obtain⟨k1,⟨hu,hz,hne⟩,h1⟩:=h;obtain⟨h1',h2'⟩:=h';have hk1: -1<=k1:=by
  rcases YU k1 (-1)with h|h
  ·have:=hz (-1) h QQ
   rw[UL (.inl QQ)]at this;omega
  ·exact h
 rcases h1 with⟨Qja,rfl⟩|⟨QZG,hu2,hz2,hne2⟩
 ·have:k1= -1:=by omega
  subst this;rcases h1' with⟨ha,hb,hc,hd⟩|h
  ·exact absurd (hz r' QQ QQ) hc
  ·exact h.symm
 ·have hr:0<=r:=by
   rcases YU r 0 with h|h
   ·have:=hz2 (-1) QQ QQ
    rw[UL (.inl QQ)]at this;have:=jG (l:=l) (big:=big) QZG QQ;omega
   ·exact h
  have hrk:r<=k1:=by
   rcases YU k1 r with h|h
   ·have:r-1=k1:=by omega
    rw[this]at hne2;exact absurd rfl hne2
   ·exact h
  have hkr:Vp l big r=Vp l big k1:=hz2 r QQ hrk;have hno:∀j,r<j->j<k->¬V8 l big j:=by
   intro j hj hj2 hb;by_cases hjk:k1<j
   ·exact hb.1 (hz j hjk QQ)
   ·rcases hb.2 with h|h
    ·omega
    ·exact h (by rw[hz2 (j-1) QQ QQ,hz2 j QQ QQ])
  have Me:0<r->V8 l big r:=fun hp=>⟨by rw[hkr];exact hne,.inr (by rw[hkr];exact hne2)⟩
  rcases Int.lt_trichotomy r r' with hlt|rfl|hgt
  ·exfalso
   rcases h1' with⟨ha,hb,hc⟩|h
   ·exact hno r' hlt hb hc
   ·omega
  ·rfl
  ·exfalso
   exact h2' r hgt QQ (by rcases h1' with⟨ha,_⟩|h<;>omega) (Me (by rcases h1' with⟨ha,_⟩|h<;>omega))
theorem eZ{l:List Int}{big:Bool}{k r r':Int}(h0:0<=k)(hk:k<=l.length)(h:Oi l big k r)(h':fD l big k r'):r=r':=by
 obtain⟨k1,⟨hu,hz,hne⟩,h1⟩:=h;rcases h1 with⟨hge,rfl⟩|⟨hlt,hu2,hz2,hne2⟩
 ·rcases h' with⟨ha,hb,hc,_⟩|⟨rfl,_⟩
  ·exact absurd (hz r' QQ QQ) hc.1
  ·rfl
 ·have QZG:0<=k1:=by omega
  have hrk:k1<=r:=by
   rcases YU r k1 with h|h
   ·have:r+1=k1:=by omega
    rw[this]at hne2;exact absurd rfl hne2
   ·exact h
  have hrl:r<l.length:=by
   rcases YU r l.length with h|h
   ·exact h
   ·have:=hz2 l.length QQ QQ
    rw[UL (.inr (Int.le_refl _))]at this;have:=jG (l:=l) (big:=big) QZG hlt;omega
  have hkr:Vp l big r=Vp l big k1:=hz2 r hrk QQ;have Me:Ends l big r:=⟨by rw[hkr];exact hne,by rw[hkr];exact hne2⟩;have hno:∀j,k<j->j<r->¬Ends l big j:=by
   intro j hj hj2 hb;by_cases hjk:j<k1
   ·exact hb.1 (hz j QQ hjk)
   ·exact hb.2 (by rw[hz2 (j+1) QQ QQ,hz2 j QQ QQ])
  rcases h' with⟨ha,hb,hc,hd⟩|⟨rfl,hd⟩
  ·rcases Int.lt_trichotomy r r' with hl|rfl|hg
   ·exact absurd Me (hd r QQ hl)
   ·rfl
   ·exact absurd hc (hno r' ha hg)
  ·exact absurd Me (hd r QQ hrl)
end Go.Proofs.YtmdcencmiopmmaaGreat
namespace Go.Proofs.YtmdcencmiopmmaaGreat
open Go.RowKit
theorem Jq(c:Int)(big:Bool)(w:World):
  Calls Tryz.prog 246 #[.int .i64 c,.bool big] w fun e w'=>e=.returned (.int .i64 (Xt c big))/\w=w':=by
 cases big
 all_goals
  go_enter Tryz.func246,Tryz.ntmps246
  go_wp2
  all_goals(go_ret;refine⟨XA ?_,rfl⟩;unfold Xt;(repeat' split)<;>simp_all<;>omega)
theorem WQ(a:Option Addr)(n c:Nat)(l:List Int)(big:Bool)(k:Int)(w:World)(hl:Ints w a l)(hn:l.length=n)(hn2:n<=9223372036854775807):
  Calls Tryz.prog 226 #[.agg #[.slice a n c,.bool big],.int .i64 k] w fun e w'=>e=.returned (.int .i64 (Vp l big k))/\Below w.heap.size w w':=by
 by_cases h0:k<0
 ·rw[UL (.inl h0)]
  exact QF1
 ·by_cases h1:(n:Int)<=k
  ·rw[UL (.inr QQ)]
   have HN:=Zy hn;clear hn;exact QF1
  ·obtain⟨j,rfl⟩:=Z9 (show 0<=k from QQ)
   obtain⟨b1,o1,rfl,hc⟩:=hl.at (k:=j) QQ;have e1:=hc j QQ;have hb:=XU e1;rw[bf QQ QQ,show((j:Int)).toNat=j from rfl];have HN:=Zy hn;clear hn hc hl;have i1:(j:Int)<(n:Int):=QQ;have i2:b1<w.heap.size:=hb;go_enter Tryz.func226,Tryz.ntmps226
   go_wp2
   go_quiet ((go_at_call 246;exact Calls.quiet_of_same ((Jq _ _ _).mono fun _ _ ⟨h,h'⟩=>⟨h,h'.symm⟩)))
   go_wp2;go_ret;exact⟨rfl,below_drewN (ZT _ _) _⟩
def QXH(l:List Int)(big:Bool)(k kind:Int)(w:World)(e:Ending)(w':World):Prop:=
 ∃r:Int,e=.returned (.int .i64 r)/\A9 l big k kind r/\r<=max k l.length/\Below w.heap.size w w'
def gW(l:List Int)(big:Bool)(k kind:Int)(w:World)(e:Ending)(w':World):Prop:=
 ∃r:Int,e=.returned (.int .i64 r)/\Aw l big k kind r/\min k (-1)<=r/\Below w.heap.size w w'
theorem UO(a:Option Addr)(n c:Nat)(l:List Int)(big:Bool)(k kind:Int)(w:World)(hl:Ints w a l)(hn:l.length=n)(hn2:n<=4096)(hk0:0<=k)(hk1:k<=n+1)(hkind:0<=kind):
  Calls Tryz.prog 225 #[.agg #[.slice a n c,.bool big],.int .i64 k,.int .i64 1,.int .i64 kind] w (QXH l big k kind w):=by
 have HN:=Zy hn;clear hn;go_enter Tryz.func225,Tryz.ntmps225
 go_wp2
 go_loopw [1] (fun v wr=>∃j:Int,v=.int .i64 j/\k<=j/\j<=max k n/\(∀i,k<=i->i<j->Vp l big i=kind)/\Za wr w.heap.size #[.slice a n c,.bool big] 298/\Below w.heap.size w wr/\w.heap.size+1<=wr.heap.size) (fun v _=>(n+1-intOf v).toNat)
 case atStart=>exact⟨k,rfl,QQ,QQ,fun i h1 h2=>QQ,Za.new _ _ _,ZT _ _,QJ⟩
 case round=>
  obtain⟨j,rfl,hj0,hj1,hall,hB,hbel,hsz⟩:=hrel;have HA:=Zy hall;clear hall;obtain⟨c0,c1,-,-⟩:=hB.two;go_wp2_with fail
  refine(WQ a n c l big j wr (hl.below hbel) HN.out QQ).mono ?_;rintro e w1 ⟨rfl,hb1⟩;by_cases hk:Vp l big j=kind
  ·have hkb:(Vp l big j==kind)=true:=by simpa using hk
   have hjn:j<n:=by
    rcases YU j n with h|h
    ·exact h
    ·rw[UL (.inr (by rw[HN.out];exact h))]at hk;omega
   have HK:=Zy hk;clear hk;go_wp2;go_roundw
   case rel=>exact⟨j+1,rfl,QQ,QQ,fun i h1 h2=>by
    rcases YU i j with h|h
    ·exact HA.out i h1 h
    ·rw[show i=j from QQ];exact HK.out,hB.below hb1 QQ,ZE hbel hbel.size hb1,QBW⟩
   case measure=>simp[intOf];omega
  ·have hkb:(Vp l big j==kind)=false:=by simpa using hk
   have HK:=Zy hk;clear hk;go_wp2;go_ret;exact⟨j,rfl,⟨hj0,HA.out,HK.out⟩,QB,ZE hbel hbel.size hb1⟩
theorem zF(a:Option Addr)(n c:Nat)(l:List Int)(big:Bool)(k kind:Int)(w:World)(hl:Ints w a l)(hn:l.length=n)(hn2:n<=4096)(hk0: -1<=k)(hk1:k<=n)(hkind:0<=kind):
  Calls Tryz.prog 225 #[.agg #[.slice a n c,.bool big],.int .i64 k,.int .i64 (-1),.int .i64 kind] w (gW l big k kind w):=by
 have HN:=Zy hn;clear hn;go_enter Tryz.func225,Tryz.ntmps225
 go_wp2
 go_loopw [1] (fun v wr=>∃j:Int,v=.int .i64 j/\j<=k/\ -1<=j/\(∀i,j<i->i<=k->Vp l big i=kind)/\Za wr w.heap.size #[.slice a n c,.bool big] 298/\Below w.heap.size w wr/\w.heap.size+1<=wr.heap.size) (fun v _=>(intOf v+1).toNat)
 case atStart=>exact⟨k,rfl,QQ,QQ,fun i h1 h2=>QQ,Za.new _ _ _,ZT _ _,QJ⟩
 case round=>
  obtain⟨j,rfl,hj0,hj1,hall,hB,hbel,hsz⟩:=hrel;have HA:=Zy hall;clear hall;obtain⟨c0,c1,-,-⟩:=hB.two;go_wp2_with fail
  refine(WQ a n c l big j wr (hl.below hbel) HN.out QQ).mono ?_;rintro e w1 ⟨rfl,hb1⟩;by_cases hk:Vp l big j=kind
  ·have hkb:(Vp l big j==kind)=true:=by simpa using hk
   have hjn:0<=j:=by
    rcases YU j 0 with h|h
    ·rw[UL (.inl h)]at hk;omega
    ·exact h
   have HK:=Zy hk;clear hk;go_wp2;go_roundw
   case rel=>exact⟨j+ -1,rfl,QQ,QQ,fun i h1 h2=>by
    rcases YU j i with h|h
    ·exact HA.out i h h2
    ·rw[show i=j from QQ];exact HK.out,hB.below hb1 QQ,ZE hbel hbel.size hb1,QBW⟩
   case measure=>simp[intOf];omega
  ·have hkb:(Vp l big j==kind)=false:=by simpa using hk
   have HK:=Zy hk;clear hk;go_wp2;go_ret;exact⟨j,rfl,⟨hj0,HA.out,HK.out⟩,QQ,ZE hbel hbel.size hb1⟩
def uZ(n:Nat)(k:Int):Int:=if 4096<n then 2 else if k<0\/(n:Int)<k then 1 else 0
theorem Lb(a:Option Addr)(n c:Nat)(k:Int)(w:World):
  Calls Tryz.prog 224 #[.slice a n c,.int .i64 k] w fun e w'=>e=.returned (.int .i64 (uZ n k))/\w=w':=by
 go_enter Tryz.func224,Tryz.ntmps224
 go_wp2
 all_goals(go_ret;refine⟨XA ?_,rfl⟩;unfold uZ;(repeat' split)<;>first|rfl|omega)
def Nc(P:Int->Prop)(w:World)(e:Ending)(w':World):Prop:=∃r:Int,e=.returned (.tuple #[.int .i64 r,.int .i64 0])/\P r/\Below w.heap.size w w'
theorem Ld{n:Nat}{k:Int}(h:n<=4096)(h0:0<=k)(h1:k<=n):uZ n k=0:=by
 unfold uZ;rw[if_neg QQ,if_neg QQ]
theorem Ve(a:Option Addr)(n c:Nat)(k:Int)(w:World)(h:n<=4096)(h0:0<=k)(h1:k<=n):
  Calls Tryz.prog 224 #[.slice a n c,.int .i64 k] w fun e w'=>e=.returned (.int .i64 0)/\w=w':=by
 have:=Lb a n c k w
 rwa[Ld h h0 h1]at this
theorem Du(a:Option Addr)(n c:Nat)(l:List Int)(big:Bool)(k:Int)(w:World)(hl:Ints w a l)(hn:l.length=n)(hn2:n<=4096)(hk0:0<=k)(hk1:k<=n):
  Calls Tryz.prog 307 #[.slice a n c,.int .i64 k,.bool big] w (Nc (Il l big k) w):=by
 have HN:=Zy hn;clear hn;go_enter Tryz.func307,Tryz.ntmps307
 go_wp2_with fail
 refine(Ve a n c k w hn2 hk0 hk1).mono ?_;rintro e w' ⟨rfl,rfl⟩;go_wp2_with fail
 have hB0:=Za.new w #[.slice a n c,.bool big] 298;refine(WQ a n c l big k _ (hl.below (ZT _ _)) HN.out QQ).mono ?_;rintro e w1 ⟨rfl,hb1⟩;have hB1:=hB0.below hb1 hB0.lt;obtain⟨c0,c1,-,-⟩:=hB1.two;have JL:=ZE (ZT w _) QJ hb1;by_cases hp:0<Vp l big k
 ·go_wp2_with fail
  refine(UO a n c l big k (Vp l big k) w1 (hl.below JL) HN.out hn2 hk0 QQ QQ).mono ?_;rintro e w2 ⟨r,rfl,hu,hr,hb2⟩;rw[HN.out]at hr;have hB2:=hB1.below hb2 hB1.lt;obtain⟨d0,d1,-,-⟩:=hB2.two;have JR:=ZE JL JL.size hb2;have HU:=Zy hu;have hkr:=hu.1;clear hu;go_wp2_with fail
  refine(UO a n c l big r 0 w2 (hl.below JR) HN.out hn2 QQ QQ QQ).mono ?_;rintro e w3 ⟨r2,rfl,hu2,hr2,hb3⟩;have HU2:=Zy hu2;clear hu2;go_wp2;go_ret2
  exact⟨r2,rfl,⟨r,.inl ⟨hp,HU.out⟩,HU2.out⟩,ZE JR JR.size hb3⟩
 ·go_wp2_with fail
  refine(UO a n c l big k 0 w1 (hl.below JL) HN.out hn2 QQ QQ QQ).mono ?_;rintro e w3 ⟨r2,rfl,hu2,hr2,hb3⟩;have HU2:=Zy hu2;clear hu2;go_wp2;go_ret2
  exact⟨r2,rfl,⟨k,.inr ⟨QQ,rfl⟩,HU2.out⟩,ZE JL JL.size hb3⟩
theorem keepW{B:Nat}{u v:Value}{w2 w' w'':World}(h:w'.cell? ⟨B,0,none⟩=some u/\w'.cell? ⟨B,1,none⟩=some v/\Below w2.heap.size w2 w')(hb:Below w'.heap.size w' w''):
  w''.cell? ⟨B,0,none⟩=some u/\w''.cell? ⟨B,1,none⟩=some v/\Below w2.heap.size w2 w'':=
 ⟨ZL hb _ _ h.1,ZL hb _ _ h.2.1,ZE h.2.2 h.2.2.size hb⟩
theorem xG(a:Option Addr)(n c:Nat)(l:List Int)(big:Bool)(k:Int)(w:World)(hl:Ints w a l)(hn:l.length=n)(hn2:n<=4096)(hk0:0<=k)(hk1:k<=n):
  Calls Tryz.prog 199 #[.slice a n c,.int .i64 k,.bool big] w (Nc (KH l big k) w):=by
 have HN:=Zy hn;clear hn;go_enter Tryz.func199,Tryz.ntmps199
 go_wp2_with fail
 refine(Ve a n c k w hn2 hk0 hk1).mono ?_;rintro e w' ⟨rfl,rfl⟩;go_wp2_with fail
 have hB0:=Za.new w #[.slice a n c,.bool big] 298;refine(zF a n c l big (k-1) 0 _ (hl.below (ZT _ _)) HN.out QQ QQ QQ QQ).mono ?_;rintro e w1 ⟨k1,rfl,hu,hr,hb1⟩;have hB1:=hB0.below hb1 hB0.lt;obtain⟨c0,c1,-,-⟩:=hB1.two;have JL:=ZE (ZT w _) QJ hb1;have HU:=Zy hu;have hkr:=hu.1;clear hu;by_cases hp:k1<0
 ·go_wp2
  go_ret2
  exact⟨0,rfl,⟨k1,HU.out,.inl ⟨hp,rfl⟩⟩,JL⟩
 ·have hkk:0<=Vp l big k1:=jG QQ QB
  have hl1:=hl.below JL;go_wp2_with fail
  go_region_held3 (fun w'=>w'.cell? ⟨w.heap.size,0,none⟩=some (.slice a n c)/\w'.cell? ⟨w.heap.size,1,none⟩=some (.bool big)/\Below w1.heap.size w1 w') (first|exact⟨c0,c1,(ZH _ _).drew⟩|assumption|exact keepW ‹_› ‹_›)
   (first|(go_at_call 226;refine(WQ a n c l big k1 _ (hl1.below (XO (XO ‹_›))) HN.out QQ).mono ?_;rintro e w2 ⟨rfl,hb2⟩)|(go_at_call 225;refine(zF a n c l big k1 (Vp l big k1) _ (hl1.below (XO (XO ‹_›))) HN.out QQ QQ QQ hkk).mono ?_;rintro e w3 ⟨r,rfl,hu3,hr3,hb3⟩;have HU3:=Zy hu3;have hur:=hu3.1;clear hu3))
  all_goals
   go_wp2;go_ret2
   refine⟨r+1,xN (YQ _ QQ) rfl,⟨k1,HU.out,.inr ⟨QQ,?_⟩⟩,ZE JL JL.size (XO (XO ‹_›))⟩;rw[show r+1-1=r from QQ];exact HU3.out
theorem GZ(a:Option Addr)(n c:Nat)(l:List Int)(big:Bool)(k:Int)(w:World)(hl:Ints w a l)(hn:l.length=n)(hn2:n<=4096)(hk0:0<=k)(hk1:k<=n):
  Calls Tryz.prog 308 #[.slice a n c,.int .i64 k,.bool big] w (Nc (Oi l big k) w):=by
 have HN:=Zy hn;clear hn;go_enter Tryz.func308,Tryz.ntmps308
 go_wp2_with fail
 refine(Ve a n c k w hn2 hk0 hk1).mono ?_;rintro e w' ⟨rfl,rfl⟩;go_wp2_with fail
 have hB0:=Za.new w #[.slice a n c,.bool big] 298;refine(UO a n c l big (k+1) 0 _ (hl.below (ZT _ _)) HN.out QQ QQ QQ QQ).mono ?_;rintro e w1 ⟨k1,rfl,hu,hr,hb1⟩;have hB1:=hB0.below hb1 hB0.lt;obtain⟨c0,c1,-,-⟩:=hB1.two;have JL:=ZE (ZT w _) QJ hb1;have HU:=Zy hu;have hkr:=hu.1;clear hu;rw[HN.out]at hr;by_cases hp:(n:Int)<=k1
 ·go_wp2
  all_goals
   go_ret2
   exact⟨max 0 ((n:Int)-1),xN QQ rfl,⟨k1,HU.out,.inl ⟨by rw[HN.out];exact hp,by rw[HN.out]⟩⟩,JL⟩
 ·have hkk:0<=Vp l big k1:=jG QQ QB
  have hl1:=hl.below JL;go_wp2_with fail
  go_region_held3 (fun w'=>w'.cell? ⟨w.heap.size,0,none⟩=some (.slice a n c)/\w'.cell? ⟨w.heap.size,1,none⟩=some (.bool big)/\Below w1.heap.size w1 w') (first|exact⟨c0,c1,(ZH _ _).drew⟩|assumption|exact keepW ‹_› ‹_›)
   (first|(go_at_call 226;refine(WQ a n c l big k1 _ (hl1.below (XO (XO ‹_›))) HN.out QQ).mono ?_;rintro e w2 ⟨rfl,hb2⟩)|(go_at_call 225;refine(UO a n c l big k1 (Vp l big k1) _ (hl1.below (XO (XO ‹_›))) HN.out QQ QQ QQ hkk).mono ?_;rintro e w3 ⟨r,rfl,hu3,hr3,hb3⟩;have HU3:=Zy hu3;have hur:=hu3.1;clear hu3))
  all_goals
   rw[HN.out]at hr3;go_wp2;go_ret2
   refine⟨r-1,xN (YQ _ QQ) rfl,⟨k1,HU.out,.inr ⟨QB,?_⟩⟩,ZE JL JL.size (XO (XO ‹_›))⟩;rw[show r-1+1=r from QQ];exact HU3.out
def uB(l:List Int)(big:Bool)(i:Int):Bool:=Vp l big i !=0&&(i==0 || Vp l big (i-1) !=Vp l big i)
def eQ(l:List Int)(big:Bool)(i:Int):Bool:=Vp l big i !=0&&Vp l big (i+1) !=Vp l big i
theorem Kl(l:List Int)(big:Bool)(i:Int):uB l big i=true↔V8 l big i:=by simp[uB,V8]
theorem jT(l:List Int)(big:Bool)(i:Int):eQ l big i=true↔Ends l big i:=by simp[eQ,Ends]
end Go.Proofs.YtmdcencmiopmmaaGreat
