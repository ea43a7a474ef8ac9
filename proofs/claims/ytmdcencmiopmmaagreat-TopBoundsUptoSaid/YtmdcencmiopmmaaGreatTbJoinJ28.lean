/- LiftTopBounds: joined, no condition of its own. -/
import Derived.Test.YtmdcencmiopmmaaGreatTbJoinT
import Derived.Test.YtmdcencmiopmmaaGreatTbJoinJ1
import Derived.Test.YtmdcencmiopmmaaGreatTbJoinJ2
import Derived.Test.YtmdcencmiopmmaaGreatTbJoinJ14
import Derived.Test.YtmdcencmiopmmaaGreatTbJoinJ20
set_option linter.unusedVariables false
set_option linter.unusedSimpArgs false
set_option maxRecDepth 100000
set_option maxHeartbeats 12000000
namespace Go.Proofs.YtmdcencmiopmmaaGreat
def XV(B:List Int)(f t:Nat):List Int:=
 if f<=t then(B.take t).drop f else if f-t<=1+t then List.replicate (f-t) 8 else 13::B.take t
def sM(B:List Int)(k:Nat)(s:Nat×List Int):Nat×List Int:=(k,s.2++XV B s.1 k)
def Ps(B:List Int)(s:Nat×List Int)(p:Nat×Option Nat):Nat×List Int:=
 match p.2 with
 | none=>((sM B p.1 s).1,(sM B p.1 s).2++[11])
 | some y=>sM B y (sM B p.1 s)
def WC(B:List Int)(pa:Nat)(steps:List (Nat×Option Nat))(pb:Nat):List Int:=(sM B pb (steps.foldl (Ps B) (pa,[]))).2
def YA(b s:List Int):List Int:=if s.length<b.length then s else b
def Ye(b:List Int)(l:List (List Int)):List Int:=l.foldl YA b
theorem uU(b:List Int)(l:List (List Int))(s:List Int):Ye b (l++[s])=YA (Ye b l) s:=by simp[Ye]
theorem qp(b:List Int)(l m:List (List Int)):Ye b (l++m)=Ye (Ye b l) m:=by simp[Ye]
def UJ(lo hi p:Nat):List (List (Nat×Option Nat)):=
 if lo<hi then[[(lo,some hi),(p,none)],[(p,none),(lo,some hi)]]else[[(p,none)]]
def KA(lo hi full:Nat):Nat->List (List (Nat×Option Nat))
 | 0=>[]
 | k+1=>KA lo hi full k++UJ lo hi (full+k)
def Kq(B:List Int)(pa pb x y full lo hi fi la:Nat):List Int:=
 if x<y then
  (if fi<la then Ye (WC B pa [(x,some y)] pb) ((KA lo hi full (fi+1-full)).map (fun p=>WC B pa p pb))else WC B pa [(x,some y)] pb)
 else WC B pa [] pb
theorem AV(B:List Int)(pa pb x y full lo hi fi la:Nat):
  (y<=x->Kq B pa pb x y full lo hi fi la=[]++XV B pa pb)/\
  (x<y->la<=fi->Kq B pa pb x y full lo hi fi la=(([]++XV B pa x)++XV B x y)++XV B y pb)/\
  (x<y->fi<la->Kq B pa pb x y full lo hi fi la=Ye ((([]++XV B pa x)++XV B x y)++XV B y pb) ((KA lo hi full (fi+1-full)).map (fun p=>WC B pa p pb))):=by
 refine⟨fun h=>?_,fun h h2=>?_,fun h h2=>?_⟩
 ·unfold Kq;rw[if_neg (by omega)];rfl
 ·unfold Kq;rw[if_pos h,if_neg (by omega)];rfl
 ·unfold Kq;rw[if_pos h,if_pos h2];rfl
structure DK (A B:List Int) (f t x y:Nat):Prop where
 fx:f<=x
 xy:x<=y
 yt:y<=t
 lo:∀i,f<=i->i<x->ix A i=ix B i
 hi:∀i,y<=i->i<t->ix A i=ix B i
 ends:x<y->ix A x≠ix B x/\ix A (y-1)≠ix B (y-1)
 none:x=y->x=t
theorem DK.exists(A B:List Int)(f t:Nat)(h:f<=t):∃x y,DK A B f t x y:=by
 induction t with
 | zero=>exact⟨f,0,by omega,by omega,QU _,fun i h1 h2=>by omega,fun i h1 h2=>by omega,fun h=>by omega,fun h=>by omega⟩
 | succ t ih=>
  rcases Qi t f with hlt|hge
  ·obtain rfl:f=t+1:=by omega
   exact⟨t+1,t+1,QU _,QU _,QU _,fun i h1 h2=>by omega,fun i h1 h2=>by omega,fun h=>by omega,fun h=>rfl⟩
  ·obtain⟨x,y,h1,h2,h3,h4,h5,h6,h7⟩:=ih hge
   by_cases he:ix A t=ix B t
   ·rcases Qi x y with hxy|hxy
    ·refine⟨x,y,h1,h2,by omega,h4,fun i hi1 hi2=>?_,h6,fun h=>by omega⟩
     rcases Qi i t with hi|hi
     ·exact h5 i hi1 hi
     ·obtain rfl:i=t:=by omega
      exact he
    ·have hxt:=h7 (by omega)
     refine⟨t+1,t+1,by omega,QU _,QU _,fun i hi1 hi2=>?_,fun i hi1 hi2=>by omega,fun h=>by omega,fun h=>rfl⟩;rcases Qi i t with hi|hi
     ·exact h4 i hi1 (by omega)
     ·obtain rfl:i=t:=by omega
      exact he
   ·rcases Qi x y with hxy|hxy
    ·exact⟨x,t+1,h1,by omega,QU _,h4,fun i hi1 hi2=>by omega,fun _=>⟨(h6 hxy).1,he⟩,fun h=>by omega⟩
    ·have hxt:=h7 (by omega)
     exact⟨x,t+1,h1,by omega,QU _,h4,fun i hi1 hi2=>by omega,fun _=>⟨by rw[hxt];exact he,he⟩,fun h=>by omega⟩
structure MI (B:List Int) (n full:Nat):Prop where
 le:full<=n
 blank:∀i,full<=i->i<n->ix B i=32
 last:0<full->ix B (full-1)≠32
theorem MI.exists(B:List Int)(n:Nat):∃full,MI B n full:=by
 induction n with
 | zero=>exact⟨0,QU _,fun i h1 h2=>by omega,fun h=>by omega⟩
 | succ n ih=>
  by_cases h:ix B n=32
  ·obtain⟨f,h1,h2,h3⟩:=ih
   refine⟨f,by omega,fun i hi1 hi2=>?_,h3⟩;rcases Qi i n with hi|hi
   ·exact h2 i hi1 hi
   ·obtain rfl:i=n:=by omega
    exact h
  ·exact⟨n+1,QU _,fun i h1 h2=>by omega,fun _=>h⟩
end Go.Proofs.YtmdcencmiopmmaaGreat
namespace Go.Proofs.YtmdcencmiopmmaaGreat
open Go.RowKit
theorem QZD(k:Nat):Vv [8] k=List.replicate k 8:=by
 induction k with
 | zero=>rfl
 | succ k ih=>rw[List.replicate_succ,<-ih];rfl
theorem L9(w:World)(x:Int):Ints (w.alloc (.cells #[.int .i64 x] 3)) (some ⟨w.heap.size,0,none⟩) [x]:=
 .inr ⟨_,_,rfl,fun i hi=>by
  obtain rfl:i=0:=by simpa using hi
  exact Xi w (.int .i64 x) 3⟩
theorem Rn(w:World)(base:Nat)(x:Int)(hb:base<=w.heap.size):Own 3 base (w.alloc (.cells #[.int .i64 x] 3)) (.slice (some ⟨w.heap.size,0,none⟩) 1 1) [x]:=
 jc (xs:=[x]) (QD.new w #[.int .i64 x] 3) hb (by simp)
theorem Nu(a:Option Addr)(n c f t:Nat)(B:List Int)(w:World)(hs:Sl w (.slice a n c) B)(hf:f<=n)(ht:t<=n)(hn:n<=120):
  Calls Tryz.prog 206 #[.slice a n c,.int .i64 (f:Int),.int .i64 (t:Int)] w (Wy (XV B f t) w):=by
 obtain⟨h1,h2,h3,h4,h5⟩:=hs.get;have HN:=QQ h1;clear h1 hs;rcases Qi t f with hlt|hge
 ·have i1:¬(f:Int)<=(t:Int):=by omega
  by_cases hq:f-t<=1+t
  ·have hw:XV B f t=List.replicate (f-t) 8:=by unfold XV;rw[if_neg (by omega),if_pos hq]
   rw[hw];have i2:(f:Int)-(t:Int)<=1+(t:Int):=by omega
   have hI:=L9 w 8;obtain⟨k,hk⟩:∃k,f-t=k:=⟨_,rfl⟩;have i3:(f:Int)-(t:Int)=(k:Int):=by omega
   rw[hk];have hk4:k<=4096:=by omega
   have hc:=Uk _ 1 1 k [8] _ hI rfl hk4 (by decide);clear h5 h3;go_enter Tryz.func206,Tryz.ntmps206
   go_wp2_with fail
   refine hc.mono ?_;rintro e w2 ⟨v,rfl,hown,hb2⟩;have hb:=QW (QC w (.cells #[.int .i64 8] 3)) (by simp) hb2;go_wp2;go_ret;rw[QZD]at hown;exact⟨_,rfl,hown.mono (by simp),hb⟩
  ·have hw:XV B f t=13::B.take t:=by unfold XV;rw[if_neg (by omega),if_neg hq]
   rw[hw];have i2:¬(f:Int)-(t:Int)<=1+(t:Int):=by omega
   have hcr:=Ww a n c t (by omega);have hI:=(h4.below (QC w (.cells #[.int .i64 13] 3))).take t;have hl:(B.take t).length=t:=by rw[QT,HN.out];omega
   have HL:=QQ hl;have ho:=Rn w w.heap.size 13 (QU _);clear hl h3;go_enter Tryz.func206,Tryz.ntmps206
   go_wp2_with (at_builtin;refine tN rfl _ _ rfl w.heap.size _ [13] (B.take t) _ t c rfl rfl ho hI HL.out (fun e=>by have:=h5 e;omega) (by simp;omega) (by simp) ?_;intro v1 w1 hown1 hgrow1)
   go_ret;exact⟨v1,rfl,hown1,(QC w _).grown hgrow1 (by simp) ho.row⟩
 ·have hw:XV B f t=(B.take t).drop f:=by unfold XV;rw[if_pos hge]
  rw[hw];have i1:(f:Int)<=(t:Int):=by omega
  have hcr:=Wq a n c f t hge (by omega);have hI:=h4.uQ (c:=c) f t (by rw[HN.out];omega) hge (by rw[HN.out];omega);have hl:((B.take t).drop f).length=t-f:=by rw[Q7,QT,HN.out];omega
  have HL:=QQ hl;clear hl h3;go_enter Tryz.func206,Tryz.ntmps206
  go_wp2_with fail
  refine(Ql _ _ _ _ _ hI HL.out (by omega) (fun e=>by have:=h5 (KO e);omega)).mono ?_;rintro e w2 ⟨v,rfl,hown,hb2⟩;go_wp2;go_ret;exact⟨_,rfl,hown,hb2⟩
theorem WS(a b:Option Addr)(n ca cb f t x y:Nat)(A B:List Int)(w:World)(ha:Sl w (.slice a n ca) A)(hb:Sl w (.slice b n cb) B)(hf:f<=t)(ht:t<=n)(hn:n<=120)(hr:DK A B f t x y):
  Calls Tryz.prog 150 #[.slice a n ca,.slice b n cb,.int .i64 (f:Int),.int .i64 (t:Int)] w fun e w'=>e=.returned (.tuple #[.int .i64 (x:Int),.int .i64 (y:Int),.bool (decide (x<y))])/\∃n,w'=w.drewN n:=by
 obtain⟨a1,a2,a3,a4,a5⟩:=ha.get;obtain⟨b1,b2,b3,b4,b5⟩:=hb.get;have HA:=QQ a1;have HB:=QQ b1;clear a1 b1 ha hb a3 b3;have HR:=QQ hr;obtain⟨r1,r2,r3,-,-,-,r7⟩:=hr;clear r7;go_enter Tryz.func150,Tryz.ntmps150
 go_wp2
 go_loopw [2] (fun i wr=>∃k:Nat,i=.int .i64 (k:Int)/\f<=k/\k<=x/\∃n,wr=w.drewN n) (fun i _=>n-(intOf i).toNat)
 case atStart=>exact⟨f,rfl,QU _,r1,0,rfl⟩
 case round=>
  obtain⟨k,rfl,hk1,hk2,m,rfl⟩:=hrel;by_cases hend:k=t\/¬(ix A k=ix B k)
  ·have hkx:k=x:=by
    rcases Qi k x with h|h
    ·rcases hend with rfl|h2
     ·omega
     ·exact absurd (HR.out.lo k hk1 h) h2
    ·omega
   subst hkx;go_upto_region 1 with fail
   go_cut [24] (fun v wx=>v=.bool false/\∃n,wx=w.drewN n)
   case first=>
    rcases Qi k t with hlt|hge
    ·have hne:(ix A k==ix B k)=false:=by
      rcases hend with rfl|h2
      ·omega
      ·simpa using h2
     obtain⟨b',o',rfl,hc1⟩:=a4.at (k:=k) (by rw[HA.out];omega);obtain⟨b'',o'',rfl,hc2⟩:=b4.at (k:=k) (by rw[HB.out];omega);have e1:=hc1 k (by rw[HA.out];omega);have e2:=hc2 k (by rw[HB.out];omega);have i1:(k:Int)<(t:Int):=by omega
     have i2:(k:Int)<(n:Int):=by omega
     clear hc1 hc2 hend;exact QuR
    ·have i1:¬(k:Int)<(t:Int):=by omega
     clear hend;exact QuR
   case rest=>
    obtain⟨rfl,m2,rfl⟩:=hcut;clear hend r1;go_wp2
    go_loopw [3] (fun i wr=>∃j:Nat,i=.int .i64 (j:Int)/\j<=t/\y<=j/\∃n,wr=w.drewN n) (fun i _=>(intOf i).toNat)
    case atStart=>exact⟨t,rfl,QU _,r3,_,rfl⟩
    case round=>
     obtain⟨j,rfl,hj1,hj2,m3,rfl⟩:=hrel;by_cases hend:j=k\/¬(ix A (j-1)=ix B (j-1))
     ·have hjy:j=y:=by
       rcases Qi y j with h|h
       ·rcases hend with rfl|h2
        ·omega
        ·exact absurd (HR.out.hi (j-1) (by omega) (by omega)) h2
       ·omega
      subst hjy;go_upto_region 3 with fail
      go_cut [42] (fun v wx=>v=.bool false/\∃n,wx=w.drewN n)
      case first=>
       rcases Qi k j with hlt|hge
       ·have hne:(ix A (j-1)==ix B (j-1))=false:=by
         rcases hend with rfl|h2
         ·omega
         ·simpa using h2
        obtain⟨b',o',rfl,hc1⟩:=a4.at (k:=j-1) (by rw[HA.out];omega);obtain⟨b'',o'',rfl,hc2⟩:=b4.at (k:=j-1) (by rw[HB.out];omega);have e1:=hc1 (j-1) (by rw[HA.out];omega);have e2:=hc2 (j-1) (by rw[HB.out];omega);have i1:(k:Int)<(j:Int):=by omega
        have i2:(j:Int)-1=((j-1:Nat):Int):=by omega
        have i3:((j-1:Nat):Int)<(n:Int):=by omega
        generalize j-1=p at *;clear hc1 hc2 hend;exact QuR
       ·have i1:¬(k:Int)<(j:Int):=by omega
        clear hend;exact QuR
      case rest=>
       obtain⟨rfl,m4,rfl⟩:=hcut;rcases Qi k j with hlt|hge
       ·have i1:(k:Int)<(j:Int):=by omega
        clear hend;go_wp2;go_ret3
        exact⟨by simp[hlt],_,rfl⟩
       ·have i1:¬(k:Int)<(j:Int):=by omega
        clear hend;go_wp2;go_ret3
        exact⟨by simp;omega,_,rfl⟩
     ·have h2:ix A (j-1)=ix B (j-1):=by
       by_cases h:ix A (j-1)=ix B (j-1)
       ·exact h
       ·exact absurd (.inr h) hend
      have h3:j≠k:=fun e=>hend (.inl e)
      have hyj:y<j:=by
       rcases Qi y j with h|h
       ·exact h
       ·obtain rfl:j=y:=by omega
        exact absurd h2 (HR.out.ends (by omega)).2
      have hne:(ix A (j-1)==ix B (j-1))=true:=by simpa using h2
      obtain⟨b',o',rfl,hc1⟩:=a4.at (k:=j-1) (by rw[HA.out];omega);obtain⟨b'',o'',rfl,hc2⟩:=b4.at (k:=j-1) (by rw[HB.out];omega);have e1:=hc1 (j-1) (by rw[HA.out];omega);have e2:=hc2 (j-1) (by rw[HB.out];omega);have i1:(k:Int)<(j:Int):=by omega
      have i2:(j:Int)-1=((j-1:Nat):Int):=by omega
      have i3:((j-1:Nat):Int)<(n:Int):=by omega
      clear hc1 hc2 hend h2;go_upto_region 3 with fail
      go_quiet (fail)
      all_goals
       go_wp2;go_roundw
       case rel=>exact⟨j-1,rfl,by omega,by omega,_,by first|rfl|exact drewN_drewN _ _ _⟩
       case measure=>simp[intOf];omega
  ·have h2:ix A k=ix B k:=by
    by_cases h:ix A k=ix B k
    ·exact h
    ·exact absurd (.inr h) hend
   have h3:k≠t:=fun e=>hend (.inl e)
   have hkx:k<x:=by
    rcases Qi k x with h|h
    ·exact h
    ·obtain rfl:k=x:=by omega
     rcases Qi k y with h4|h4
     ·exact absurd h2 (HR.out.ends h4).1
     ·exact absurd (HR.out.none (by omega)) h3
   have hne:(ix A k==ix B k)=true:=by simpa using h2
   obtain⟨b',o',rfl,hc1⟩:=a4.at (k:=k) (by rw[HA.out];omega);obtain⟨b'',o'',rfl,hc2⟩:=b4.at (k:=k) (by rw[HB.out];omega);have e1:=hc1 k (by rw[HA.out];omega);have e2:=hc2 k (by rw[HB.out];omega);have i1:(k:Int)<(t:Int):=by omega
   have i2:(k:Int)<(n:Int):=by omega
   clear hc1 hc2 hend h2 h3;go_upto_region 1 with fail
   go_quiet (fail)
   all_goals
    go_wp2;go_roundw
    case rel=>exact⟨k+1,by go_num,by omega,by omega,_,by first|rfl|exact drewN_drewN _ _ _⟩
    case measure=>simp[intOf];omega
theorem vg{ops:Array Oper}{o:Oper}{a:Act}{K:Act->World->Prop}{Q:Exit->Act->World->Prop}{w:World}{E:Prop}(hw:Region.wanted o (yielded ops a.tmps)=true)(s x:Operand)
  (ho:o.op=.call {callee:=.builtin .append,args:=#[s,x],argTypes:=#[26,26]})
  (base:Nat) (v:Value) (xs ys:List Int) (ad:Option Addr) (m c:Nat) (hs:a.eval s=v) (hx:a.eval x=.slice ad m c)
  (hown:Own 3 base w v xs) (hy:Ints w ad ys) (hm:ys.length=m) (h0:ad=none->m=0) (hl:xs.length+m<=17592186044416) (hbase:base<=w.heap.size)
  (h:∀v' w',Own 3 base w' v' (xs++ys)->w.grownBy w' v.ownBlock->K (a.put o.dst v') w'):
  if Region.wanted o (yielded ops a.tmps)=true then Oper.wp Tryz.prog o a w K Q else E:=by
 rw[if_pos hw];rcases ad with _|ad
 ·obtain rfl:m=0:=h0 rfl
  obtain rfl:ys=[]:=QH hm;have hr:=U1 w o.type v xs base c hown (by omega);unfold Oper.wp execOp;simp only[ho,resolve,invoke,builtin,Sem.run_bind,Sem.run_pure,XT,List.map_toArray,List.map_cons,List.map_nil,hs,hx,hr];exact h v w (by simpa using hown) ⟨rfl,rfl,rfl,QU _,fun _ _ _=>rfl⟩
 ·exact LW s x ho base v xs ys ad m c hs hx hown hy hm hl hbase fun v' w' h1 h2 _=>h v' w' h1 h2
def JT(base:Nat)(w:World)(J:Nat)(cv:Value)(p:Nat)(s:List Int)(m:Nat):Prop:=
 ∃sv,QD w J #[cv,.int .i64 (p:Int),sv] 228/\Own 3 base w sv s/\base<=J/\s.length<=400*m
def MG(base J:Nat)(cv:Value)(p:Nat)(s:List Int)(m:Nat)(w:World)(e:Ending)(w':World):Prop:=
 e=.returned (.pointer (some ⟨J,0,none⟩))/\JT base w' J cv p s m/\Below base w w'/\w.heap.size<=w'.heap.size
theorem Own.sl0{e:TypeId}{base:Nat}{w:World}{a:Option Addr}{n c:Nat}{xs:List Int}(h:Own e base w (.slice a n c) xs):a=none->n=0:=h.sl.get.2.2.2.2
theorem y9(B:List Int)(f t:Nat)(ht:t<=B.length):(XV B f t).length<=f+t+1:=by
 unfold XV;split
 ·rw[Q7,QT];omega
 ·split
  ·rw[Xr];omega
  ·rw[ZK,QT];omega
theorem XH.Xn{base:Nat}{w w':World}{v:Value}{xs:List Int}(h:XH (fun x=>x<base) w v xs)(hb:Below base w w'):XH (fun x=>x<base) w' v xs:=
 h.keep fun q v hq hc=>by
  unfold World.cell? at hc ⊢;rw[hb.block _ hq];exact hc
structure JW (base J:Nat) (w0 w:World) (cs:Array Value) (sv:Value) (s:List Int):Prop where
 blk:QD w J cs 228
 own:Own 3 base w sv s
 XW:Below base w0 w
theorem JW.set{base J:Nat}{w0 w:World}{cs:Array Value}{sv:Value}{s:List Int}(h:JW base J w0 w cs sv s)(hb:base<=J)(i:Nat)(v:Value):JW base J w0 (w.setCell ⟨J,i,none⟩ v) (cs.setIfInBounds i v) sv s:=
 ⟨h.blk.set i v,h.own.other (a:=⟨J,i,none⟩) (h.own.ZA h.blk (by decide)) v,h.XW.setCell (p:=⟨J,i,none⟩) hb v⟩
theorem JW.fin{base J:Nat}{w0 w:World}{cs:Array Value}{cv sv:Value}{p:Nat}{s:List Int}{m:Nat}(h:JW base J w0 w cs sv s)(hc:cs=#[cv,.int .i64 (p:Int),sv])(hb:base<=J)(hl:s.length<=400*m):MG base J cv p s m w0 (.returned (.pointer (some ⟨J,0,none⟩))) w:=by
 subst hc;exact⟨rfl,⟨sv,h.blk,h.own,hb,hl⟩,h.XW,h.XW.size⟩
theorem X3(base J m:Nat)(a:Option Addr)(n c p k:Nat)(B s:List Int)(w:World)(hs:XH (fun x=>x<base) w (.slice a n c) B)(h:JT base w J (.slice a n c) p s m)(hp:p<=n)(hk:k<=n)(hn:n<=120)(hm:m<=100):
  Calls Tryz.prog 151 #[.pointer (some ⟨J,0,none⟩),.int .i64 (k:Int)] w (MG base J (.slice a n c) k (s++XV B p k) (m+1) w):=by
 obtain⟨sv,hB,hown,Ns,hl⟩:=h;obtain⟨sa,sn,sc,rfl⟩:=hown.form;have hJ:=hB.lt;have hwl:=y9 B p k (by rw[hs.get.1];exact hk);have hsl:=hs.sl;obtain⟨c0,c1,c2,g0,g1,g2⟩:=hB.three;go_enter Tryz.func151,Tryz.ntmps151
 go_wp2
 go_region_law (first|(go_simp;go_at_call 206;refine(Nu a n c p k B _ hsl.drew hp hk hn).mono ?_;rintro e w8 ⟨v8,rfl,o8,ZU⟩;obtain⟨a8,n8,c8,rfl⟩:=o8.form;have JR:=hB.drew.below ZU hB.drew.lt;obtain⟨k0,k1,k2,l0,l1,l2⟩:=JR.three;have O9:=hown.drew.kept ZU)|(refine vg (by rfl) _ _ rfl base (.slice sa sn sc) s _ _ _ _ rfl rfl O9 o8.get.2.1 o8.get.1 o8.sl0 (by rw[<-o8.get.1];omega) (QL (QL Ns (ZR hJ)) ZU.size) ?_;intro v9 w9 o9 ZE;obtain⟨a9,n9,c9,rfl⟩:=o9.form;have Kk:=JR.grown ZE (O9.ZA JR (by decide));obtain⟨m0,m1,m2,q0,q1,q2⟩:=Kk.three))
 all_goals
  have mJ:JW base J w w9 _ _ _:=⟨Kk,o9,((Qx base w).drew.trans (ZU.mono (QL Ns (ZR hJ)))).grown ZE (QL (QL Ns (ZR hJ)) ZU.size) O9.row⟩;have HW9:=QQ mJ;clear mJ Kk o9 ZU JR O9 hB hown ZE hs hsl;go_wp2;go_ret;exact((HW9.out.set Ns 2 _).set Ns 1 _).fin (by simp) Ns (by rw[QE];omega)
theorem JV(base J m:Nat)(a:Option Addr)(n c p f t:Nat)(B s:List Int)(w:World)(hs:XH (fun x=>x<base) w (.slice a n c) B)(h:JT base w J (.slice a n c) p s m)(hp:p<=n)(hf:f<=t)(ht:t<=n)(hn:n<=120)(hm:m<=90):
  Calls Tryz.prog 152 #[.pointer (some ⟨J,0,none⟩),.int .i64 (f:Int),.int .i64 (t:Int)] w (MG base J (.slice a n c) t ((s++XV B p f)++XV B f t) (m+2) w):=by
 have hto:=X3 base J m a n c p f B s w hs h hp (by omega) hn (by omega);have hwl:=y9 B p f (by rw[hs.get.1];omega);obtain⟨s1,s2,s3,s4,s5⟩:=hs.get;go_enter Tryz.func152,Tryz.ntmps152
 go_wp2_with fail
 refine hto.mono ?_;rintro e w2 ⟨rfl,⟨sv,hB,hown,Ns,hl2⟩,hb2,hz2⟩;obtain⟨sa,sn,sc,rfl⟩:=hown.form;have hJ:=hB.lt;obtain⟨c0,c1,c2,g0,g1,g2⟩:=hB.three;have hs2:=hs.Xn hb2;have hI:=hs2.get.2.2.2.1.uQ (c:=c) f t (by rw[s1];omega) hf (by rw[s1];omega);have hcr:=Wq a n c f t hf (by omega);have hlen:((B.take t).drop f).length=t-f:=by rw[Q7,QT,s1];omega
 have hw:XV B f t=(B.take t).drop f:=by unfold XV;rw[if_pos hf]
 have HL:=QQ hlen;have HS:=QQ s1;have hsl:(s++XV B p f).length<=100000:=by omega
 clear hlen s1 hto h;go_wp2
 go_region_law (refine vg (by rfl) _ _ rfl base (.slice sa sn sc) (s++XV B p f) ((B.take t).drop f) _ _ _ rfl rfl hown.drew hI.drew HL.out (fun e=>by have:=s5 (KO e);omega) (by omega) (by simp;omega) ?_;intro v9 w9 o9 ZE;obtain⟨a9,n9,c9,rfl⟩:=o9.form;have Kk:=hB.drew.grown ZE (hown.ZA hB (by decide));obtain⟨m0,m1,m2,q0,q1,q2⟩:=Kk.three)
 all_goals
  have mJ:JW base J w w9 _ _ _:=⟨Kk,o9,hb2.drew.grown ZE (by simp;omega) hown.row⟩;have HW9:=QQ mJ;have zt:w.heap.size<=w.heap.size:=QU _;clear mJ Kk o9 hB hown ZE hs hs2 hI;go_wp2;go_ret;rw[hw];exact((HW9.out.set Ns 2 _).set Ns 1 _).fin (by simp) Ns (by rw[QE,HL.out];omega)
theorem Yl(base J m:Nat)(a:Option Addr)(n c p k:Nat)(B s:List Int)(w:World)(hs:XH (fun x=>x<base) w (.slice a n c) B)(h:JT base w J (.slice a n c) p s m)(hp:p<=n)(hk:k<=n)(hn:n<=120)(hm:m<=90):
  Calls Tryz.prog 153 #[.pointer (some ⟨J,0,none⟩),.int .i64 (k:Int)] w (MG base J (.slice a n c) k ((s++XV B p k)++[11]) (m+2) w):=by
 have hto:=X3 base J m a n c p k B s w hs h hp hk hn (by omega);have hwl:=y9 B p k (by rw[hs.get.1];omega);go_enter Tryz.func153,Tryz.ntmps153
 go_wp2_with fail
 refine hto.mono ?_;rintro e w2 ⟨rfl,⟨sv,hB,hown,Ns,hl2⟩,hb2,hz2⟩;obtain⟨sa,sn,sc,rfl⟩:=hown.form;have hJ:=hB.lt;obtain⟨c0,c1,c2,g0,g1,g2⟩:=hB.three;have hsl:(s++XV B p k).length<=100000:=by omega
 clear hto h hs;have hBa:=hB.alloc (.cells #[.int .i64 11] 3);go_wp2_with (at_builtin;refine OI rfl _ _ rfl base _ (s++XV B p k) [11] _ 1 1 rfl rfl (hown.alloc _) (L9 _ _) rfl (by omega) (by simp;omega) ?_;intro v9 w9 o9 ZE _;obtain⟨a9,n9,c9,rfl⟩:=o9.form;have Kk:=hBa.grown ZE (hown.ZA hB (by decide));obtain⟨m0,m1,m2,q0,q1,q2⟩:=Kk.three)
 have mJ:JW base J w w9 _ _ _:=⟨Kk,o9,(hb2.alloc (by omega) _).grown ZE (by simp;omega) hown.row⟩;have HW9:=QQ mJ;clear mJ Kk o9 hB hown ZE hBa;go_wp2;go_ret;exact(HW9.out.set Ns 2 _).fin (by simp) Ns (by rw[QE,List.length_singleton];omega)
theorem Yd(B2 B3:Nat)(a:Option Addr)(n c p:Nat)(w:World)(c3:w.cell? ⟨B3,0,none⟩=some (.slice a n c))(c2:w.cell? ⟨B2,1,none⟩=some (.int .i64 (p:Int))):
  Calls Tryz.prog 149 #[.pointer (some ⟨B3,0,none⟩),.pointer (some ⟨B2,0,none⟩)] w (fun e w'=>∃J,e=.returned (.pointer (some ⟨J,0,none⟩))/\w.heap.size<=J/\JT J w' J (.slice a n c) p [] 0/\Below w.heap.size w w'):=by
 go_enter Tryz.func149,Tryz.ntmps149
 go_wp2;go_ret;exact⟨_,rfl,QU _,⟨_,QD.new _ _ _,Own.nil _ _ _,QU _,by simp⟩,QC _ _⟩
def KZ(c:Int):Bool:=decide (c<32) || c==127
def JZ(xs:List Int)(p:Int):Int:=
 if xs.length<2\/120<xs.length\/p<0\/(xs.length:Int)<p then 1 else if xs.any KZ then 4 else 0
theorem gL(c:Int)(w:World):
  Calls Tryz.prog 121 #[.int .i64 c] w fun e w'=>e=.returned (.bool (KZ c))/\w=w':=by
 go_enter Tryz.func121,Tryz.ntmps121
 go_wp2
 all_goals
  go_ret;exact⟨XZ (by unfold KZ;simp_all),rfl⟩
def yf(xs:List Int)(r:Int):Prop:=(∃k,k<xs.length/\KZ (ix xs k)=true/\r=(k:Int))\/((∀k,k<xs.length->KZ (ix xs k)=false)/\r= -1)
theorem yf.any{xs:List Int}{r:Int}(h:yf xs r):decide (0<=r)=xs.any KZ:=by
 rcases h with⟨k,h1,h2,rfl⟩|⟨h1,rfl⟩
 ·have:xs.any KZ=true:=List.any_eq_true.2 ⟨_,Hf h1,h2⟩
  rw[this];simp
 ·have:xs.any KZ=false:=by
   rw[List.any_eq_false];intro x hx;obtain⟨k,hk,rfl⟩:=List.getElem_of_mem hx;have:=h1 k hk;rw[Xt hk]at this;simp[this]
  rw[this];rfl
theorem GM(a:Option Addr)(n c:Nat)(xs:List Int)(w:World)(ha:Ints w a xs)(hn:xs.length=n)(h2:n<=9223372036854775807):
  Calls Tryz.prog 53 #[.slice a n c,.func (.func 121) #[] #[]] w fun e w'=>∃r,e=.returned (.int .i64 r)/\yf xs r/\w=w':=by
 have HN:=QQ hn;clear hn;go_enter Tryz.func53,Tryz.ntmps53
 go_wp2
 go_loopw [8] (fun i wr=>∃k:Nat,i=.int .i64 (k:Int)/\k<=n/\(∀j,j<k->KZ (ix xs j)=false)/\w=wr) (fun i _=>n-(intOf i).toNat)
 case atStart=>exact⟨0,rfl,by omega,fun j hj=>by omega,rfl⟩
 case round=>
  obtain⟨k,rfl,hk,hno,rfl⟩:=hrel;have Yr:=QQ hno;clear hno;by_cases hlt:k<n
  ·obtain⟨b1,o1,rfl,hc0⟩:=ha.at (k:=k) (by rw[HN.out];exact hlt)
   have ck:=hc0 k (by rw[HN.out];exact hlt);have i1:(k:Int)<(n:Int):=by omega
   clear hc0;go_wp2_with fail
   refine(gL _ _).mono ?_;rintro e w' ⟨rfl,rfl⟩;rcases hb:KZ (ix xs k)with _|_
   ·have HB:=QQ hb
    clear hb;go_wp2;go_roundw
    case rel=>
     refine⟨k+1,by go_num,by omega,?_,by first|rfl|trivial⟩;intro j hj;rcases Qp.1 hj with h|rfl
     ·exact Yr.out j h
     ·exact HB.out
    case measure=>simp[intOf];omega
   ·go_wp2
    go_ret;exact⟨_,rfl,.inl ⟨k,by rw[HN.out];exact hlt,hb,rfl⟩,rfl⟩
  ·have HR:=QQ (show yf xs (-1)from Or.inr (And.intro (fun j hj=>Yr.out j (by rw[HN.out]at hj;omega)) rfl))
   go_wp2;go_ret;exact⟨_,rfl,HR.out,rfl⟩
theorem uG(a:Option Addr)(n c:Nat)(xs:List Int)(w:World)(ha:Ints w a xs)(hn:xs.length=n)(h2:n<=9223372036854775807):
  Calls Tryz.prog 21 #[.slice a n c,.func (.func 121) #[] #[]] w fun e w'=>e=.returned (.bool (xs.any KZ))/\w=w':=by
 have HN:=QQ hn;clear hn;go_enter Tryz.func21,Tryz.ntmps21
 go_wp2_with fail
 refine(GM a n c xs w ha HN.out h2).mono ?_;rintro e w' ⟨r,rfl,hr,rfl⟩;go_wp2;go_ret;exact⟨XZ hr.any,rfl⟩
theorem Gp{xs:List Int}{p:Int}(h:xs.length<2\/120<xs.length\/p<0\/(xs.length:Int)<p):JZ xs p=1:=if_pos h
theorem NK{xs:List Int}{p:Int}(h:¬(xs.length<2\/120<xs.length\/p<0\/(xs.length:Int)<p)):JZ xs p=if xs.any KZ then 4 else 0:=if_neg h
theorem jq(a:Option Addr)(n c:Nat)(xs:List Int)(p:Int)(w:World)(ha:Ints w a xs)(hn:xs.length=n)(h2:n<=9223372036854775807):
  Calls Tryz.prog 64 #[.agg #[.slice a n c,.int .i64 p]] w fun e w'=>e=.returned (.int .i64 (JZ xs p))/\Below w.heap.size w w':=by
 have HN:=QQ hn;have hb1:=QC w (.cells #[.slice a n c,.int .i64 p] 39);by_cases hok:n<2\/120<n\/p<0\/(n:Int)<p
 ·have HE:=QQ (Gp (xs:=xs) (p:=p) (by rw[hn];exact hok))
  clear hn;go_enter Tryz.func64,Tryz.ntmps64
  by_cases e1:n<2
  ·go_wp2
   exact QAU
  ·by_cases e2:120<n
   ·go_wp2
    exact QAU
   ·by_cases e3:p<0
    ·go_wp2
     exact QAU
    ·have e4:(n:Int)<p:=by omega
     go_wp2;exact QAU
 ·have HE:=QQ (NK (xs:=xs) (p:=p) (by rw[hn];exact hok))
  have e1:2<=n:=by omega
  have e2:n<=120:=by omega
  have e3:0<=p:=by omega
  have e4:p<=(n:Int):=by omega
  clear hn hok;go_enter Tryz.func64,Tryz.ntmps64
  go_wp2_with fail
  refine(uG a n c xs _ (ha.below hb1) HN.out h2).mono ?_;rintro e w' ⟨rfl,rfl⟩;rcases hb:xs.any KZ with _|_
  ·have HF:=QQ (show JZ xs p=0 by rw[HE.out,hb];rfl)
   clear hb;go_wp2;go_ret;exact⟨ZQ HF.out.symm,hb1⟩
  ·have HF:=QQ (show JZ xs p=4 by rw[HE.out,hb];rfl)
   clear hb;go_wp2;go_ret;exact⟨ZQ HF.out.symm,hb1⟩
end Go.Proofs.YtmdcencmiopmmaaGreat
