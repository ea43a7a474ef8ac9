/- joined, no condition of its own. -/
import Derived.Test.YtmdnepkekekncaaGreatJfJ20
set_option linter.unusedVariables false
set_option linter.unusedSimpArgs false
set_option maxRecDepth 100000
set_option maxHeartbeats 12000000
namespace Go.Proofs.YtmdnepkekekncaaGreat
def YN(B:List Int)(f t:Nat):List Int:=
 if f<=t then(B.take t).drop f else if f-t<=1+t then List.replicate (f-t) 8 else 13::B.take t
def goS(B:List Int)(k:Nat)(s:Nat×List Int):Nat×List Int:=(k,s.2++YN B s.1 k)
def df(B:List Int)(s:Nat×List Int)(p:Nat×Option Nat):Nat×List Int:=
 match p.2 with
 | none=>((goS B p.1 s).1,(goS B p.1 s).2++[11])
 | some y=>goS B y (goS B p.1 s)
def xq(B:List Int)(pa:Nat)(steps:List (Nat×Option Nat))(pb:Nat):List Int:=(goS B pb (steps.foldl (df B) (pa,[]))).2
def Jc(b s:List Int):List Int:=if s.length<b.length then s else b
def KX(b:List Int)(l:List (List Int)):List Int:=l.foldl Jc b
theorem CY(b:List Int)(l:List (List Int))(s:List Int):KX b (l++[s])=Jc (KX b l) s:=by simp[KX]
theorem jk(b:List Int)(l m:List (List Int)):KX b (l++m)=KX (KX b l) m:=by simp[KX]
def Vt(lo hi p:Nat):List (List (Nat×Option Nat)):=
 if lo<hi then[[(lo,some hi),(p,none)],[(p,none),(lo,some hi)]]else[[(p,none)]]
def Uw(lo hi full:Nat):Nat->List (List (Nat×Option Nat))
 | 0=>[]
 | k+1=>Uw lo hi full k++Vt lo hi (full+k)
def Uo(B:List Int)(pa pb x y full lo hi fi la:Nat):List Int:=
 if x<y then
  (if fi<la then KX (xq B pa [(x,some y)] pb) ((Uw lo hi full (fi+1-full)).map (fun p=>xq B pa p pb))else xq B pa [(x,some y)] pb)
 else xq B pa [] pb
theorem EX(B:List Int)(pa pb x y full lo hi fi la:Nat):
  (y<=x->Uo B pa pb x y full lo hi fi la=[]++YN B pa pb)/\
  (x<y->la<=fi->Uo B pa pb x y full lo hi fi la=(([]++YN B pa x)++YN B x y)++YN B y pb)/\
  (x<y->fi<la->Uo B pa pb x y full lo hi fi la=KX ((([]++YN B pa x)++YN B x y)++YN B y pb) ((Uw lo hi full (fi+1-full)).map (fun p=>xq B pa p pb))):=by
 refine⟨fun h=>?_,fun h h2=>?_,fun h h2=>?_⟩
 ·unfold Uo;rw[if_neg QQ];rfl
 ·unfold Uo;rw[if_pos h,if_neg QQ];rfl
 ·unfold Uo;rw[if_pos h,if_pos h2];rfl
structure Gw (A B:List Int) (f t x y:Nat):Prop where
 fx:f<=x
 xy:x<=y
 yt:y<=t
 lo:∀i,f<=i->i<x->ix A i=ix B i
 hi:∀i,y<=i->i<t->ix A i=ix B i
 ends:x<y->ix A x≠ix B x/\ix A (y-1)≠ix B (y-1)
 none:x=y->x=t
theorem Gw.exists(A B:List Int)(f t:Nat)(h:f<=t):∃x y,Gw A B f t x y:=by
 induction t with
 | zero=>exact⟨f,0,QQ,QQ,ZB _,fun i h1 h2=>QQ,fun i h1 h2=>QQ,fun h=>QQ,fun h=>QQ⟩
 | succ t ih=>
  rcases Z9 t f with hlt|hge
  ·obtain rfl:f=t+1:=by omega
   exact⟨t+1,t+1,ZB _,ZB _,ZB _,fun i h1 h2=>QQ,fun i h1 h2=>QQ,fun h=>QQ,fun h=>rfl⟩
  ·obtain⟨x,y,h1,h2,h3,h4,h5,h6,h7⟩:=ih hge
   by_cases he:ix A t=ix B t
   ·rcases Z9 x y with hxy|hxy
    ·refine⟨x,y,h1,h2,QQ,h4,fun i hi1 hi2=>?_,h6,fun h=>QQ⟩
     rcases Z9 i t with hi|hi
     ·exact h5 i hi1 hi
     ·obtain rfl:i=t:=by omega
      exact he
    ·have hxt:=h7 QQ
     refine⟨t+1,t+1,QQ,ZB _,ZB _,fun i hi1 hi2=>?_,fun i hi1 hi2=>QQ,fun h=>QQ,fun h=>rfl⟩;rcases Z9 i t with hi|hi
     ·exact h4 i hi1 QQ
     ·obtain rfl:i=t:=by omega
      exact he
   ·rcases Z9 x y with hxy|hxy
    ·exact⟨x,t+1,h1,QQ,ZB _,h4,fun i hi1 hi2=>QQ,fun _=>⟨(h6 hxy).1,he⟩,fun h=>QQ⟩
    ·have hxt:=h7 QQ
     exact⟨x,t+1,h1,QQ,ZB _,h4,fun i hi1 hi2=>QQ,fun _=>⟨by rw[hxt];exact he,he⟩,fun h=>QQ⟩
structure R3 (B:List Int) (n full:Nat):Prop where
 le:full<=n
 blank:∀i,full<=i->i<n->ix B i=32
 last:0<full->ix B (full-1)≠32
theorem R3.exists(B:List Int)(n:Nat):∃full,R3 B n full:=by
 induction n with
 | zero=>exact⟨0,ZB _,fun i h1 h2=>QQ,fun h=>QQ⟩
 | succ n ih=>
  by_cases h:ix B n=32
  ·obtain⟨f,h1,h2,h3⟩:=ih
   refine⟨f,QQ,fun i hi1 hi2=>?_,h3⟩;rcases Z9 i n with hi|hi
   ·exact h2 i hi1 hi
   ·obtain rfl:i=n:=by omega
    exact h
  ·exact⟨n+1,ZB _,fun i h1 h2=>QQ,fun _=>h⟩
end Go.Proofs.YtmdnepkekekncaaGreat
namespace Go.Proofs.YtmdnepkekekncaaGreat
open Go.RowKit
theorem QUx(k:Nat):qL [8] k=List.replicate k 8:=by
 induction k with
 | zero=>rfl
 | succ k ih=>rw[List.replicate_succ,<-ih];rfl
theorem RG(w:World)(x:Int):Ints (w.alloc (.cells #[.int .i64 x] 3)) (some ⟨w.heap.size,0,none⟩) [x]:=
 .inr ⟨_,_,rfl,fun i hi=>by
  obtain rfl:i=0:=QDb;exact JQ w (.int .i64 x) 3⟩
theorem gJ(w:World)(base:Nat)(x:Int)(hb:base<=w.heap.size):Own 3 base (w.alloc (.cells #[.int .i64 x] 3)) (.slice (some ⟨w.heap.size,0,none⟩) 1 1) [x]:=
 A7 (xs:=[x]) (Za.new w #[.int .i64 x] 3) hb QJ
theorem Ty(a:Option Addr)(n c f t:Nat)(B:List Int)(w:World)(hs:Sl w (.slice a n c) B)(hf:f<=n)(ht:t<=n)(hn:n<=120):
  Calls Tryz.prog 132 #[.slice a n c,.int .i64 (f:Int),.int .i64 (t:Int)] w (zw (YN B f t) w):=by
 obtain⟨h1,h2,h3,h4,h5⟩:=hs.get;have HN:=Zy h1;clear h1 hs;rcases Z9 t f with hlt|hge
 ·have i1:¬(f:Int)<=(t:Int):=by omega
  by_cases hq:f-t<=1+t
  ·have hw:YN B f t=List.replicate (f-t) 8:=by unfold YN;rw[if_neg QQ,if_pos hq]
   rw[hw];have i2:(f:Int)-(t:Int)<=1+(t:Int):=QQ;have hI:=RG w 8;obtain⟨k,hk⟩:∃k,f-t=k:=⟨_,rfl⟩;have i3:(f:Int)-(t:Int)=(k:Int):=QQ;rw[hk];have hk4:k<=4096:=QQ;have hc:=WQ _ 1 1 k [8] _ hI rfl hk4 QZ;clear h5 h3;go_enter Tryz.func132,Tryz.ntmps132
   go_wp2_with fail
   refine hc.mono ?_;rintro e w2 ⟨v,rfl,hown,hb2⟩;have hb:=ZE (ZR w (.cells #[.int .i64 8] 3)) QJ hb2;go_wp2;go_ret;rw[QUx]at hown;exact⟨_,rfl,hown.mono QJ,hb⟩
  ·have hw:YN B f t=13::B.take t:=by unfold YN;rw[if_neg QQ,if_neg hq]
   rw[hw];have i2:¬(f:Int)-(t:Int)<=1+(t:Int):=QQ;have hcr:=yZ a n c t QQ;have hI:=(h4.below (ZR w (.cells #[.int .i64 13] 3))).take t;have hl:(B.take t).length=t:=QEO;have HL:=Zy hl;have ho:=gJ w w.heap.size 13 (ZB _);clear hl h3;go_enter Tryz.func132,Tryz.ntmps132
   go_wp2_with (at_builtin;refine QJn rfl _ _ rfl w.heap.size _ [13] (B.take t) _ t c rfl rfl ho hI HL.out (fun e=>by have:=h5 e;omega) QY QJ ?_;intro v1 w1 hown1 hgrow1)
   go_ret;exact⟨v1,rfl,hown1,(ZR w _).grown hgrow1 QJ ho.row⟩
 ·have hw:YN B f t=(B.take t).drop f:=by unfold YN;rw[if_pos hge]
  rw[hw];have i1:(f:Int)<=(t:Int):=QQ;have hcr:=zl a n c f t hge QQ;have hI:=h4.Bt (c:=c) f t QB hge QB;have hl:((B.take t).drop f).length=t-f:=by rw[Xk,Zi,HN.out];omega
  have HL:=Zy hl;clear hl h3;go_enter Tryz.func132,Tryz.ntmps132
  go_wp2_with fail
  refine(XY _ _ _ _ _ hI HL.out QQ (fun e=>by have:=h5 (Vu e);omega)).mono ?_;rintro e w2 ⟨v,rfl,hown,hb2⟩;go_wp2;go_ret;exact⟨_,rfl,hown,hb2⟩
theorem xI(a b:Option Addr)(n ca cb f t x y:Nat)(A B:List Int)(w:World)(ha:Sl w (.slice a n ca) A)(hb:Sl w (.slice b n cb) B)(hf:f<=t)(ht:t<=n)(hn:n<=120)(hr:Gw A B f t x y):
  Calls Tryz.prog 102 #[.slice a n ca,.slice b n cb,.int .i64 (f:Int),.int .i64 (t:Int)] w fun e w'=>e=.returned (.tuple #[.int .i64 (x:Int),.int .i64 (y:Int),.bool (decide (x<y))])/\∃n,w'=w.drewN n:=by
 obtain⟨a1,a2,a3,a4,a5⟩:=ha.get;obtain⟨b1,b2,b3,b4,b5⟩:=hb.get;have HA:=Zy a1;have HB:=Zy b1;clear a1 b1 ha hb a3 b3;have HR:=Zy hr;obtain⟨r1,r2,r3,-,-,-,r7⟩:=hr;clear r7;go_enter Tryz.func102,Tryz.ntmps102
 go_wp2
 go_loopw [2] (fun i wr=>∃k:Nat,i=.int .i64 (k:Int)/\f<=k/\k<=x/\∃n,wr=w.drewN n) (fun i _=>n-(intOf i).toNat)
 case atStart=>exact⟨f,rfl,ZB _,r1,0,rfl⟩
 case round=>
  obtain⟨k,rfl,hk1,hk2,m,rfl⟩:=hrel;by_cases hend:k=t\/¬(ix A k=ix B k)
  ·have hkx:k=x:=by
    rcases Z9 k x with h|h
    ·rcases hend with rfl|h2
     ·omega
     ·exact absurd (HR.out.lo k hk1 h) h2
    ·omega
   subst hkx;go_upto_region 1 with fail
   go_cut [24] (fun v wx=>v=.bool false/\∃n,wx=w.drewN n)
   case first=>
    rcases Z9 k t with hlt|hge
    ·have hne:(ix A k==ix B k)=false:=by
      rcases hend with rfl|h2
      ·omega
      ·simpa using h2
     obtain⟨b',o',rfl,hc1⟩:=a4.at (k:=k) QDq;obtain⟨b'',o'',rfl,hc2⟩:=b4.at (k:=k) QDW;have e1:=hc1 k QDq;have e2:=hc2 k QDW;have i1:(k:Int)<(t:Int):=QQ;have i2:(k:Int)<(n:Int):=QQ;clear hc1 hc2 hend;exact QHG
    ·have i1:¬(k:Int)<(t:Int):=by omega
     clear hend;exact QHG
   case rest=>
    obtain⟨rfl,m2,rfl⟩:=hcut;clear hend r1;go_wp2
    go_loopw [3] (fun i wr=>∃j:Nat,i=.int .i64 (j:Int)/\j<=t/\y<=j/\∃n,wr=w.drewN n) (fun i _=>(intOf i).toNat)
    case atStart=>exact⟨t,rfl,ZB _,r3,_,rfl⟩
    case round=>
     obtain⟨j,rfl,hj1,hj2,m3,rfl⟩:=hrel;by_cases hend:j=k\/¬(ix A (j-1)=ix B (j-1))
     ·have hjy:j=y:=by
       rcases Z9 y j with h|h
       ·rcases hend with rfl|h2
        ·omega
        ·exact absurd (HR.out.hi (j-1) QQ QQ) h2
       ·omega
      subst hjy;go_upto_region 3 with fail
      go_cut [42] (fun v wx=>v=.bool false/\∃n,wx=w.drewN n)
      case first=>
       rcases Z9 k j with hlt|hge
       ·have hne:(ix A (j-1)==ix B (j-1))=false:=by
         rcases hend with rfl|h2
         ·omega
         ·simpa using h2
        obtain⟨b',o',rfl,hc1⟩:=a4.at (k:=j-1) QDq;obtain⟨b'',o'',rfl,hc2⟩:=b4.at (k:=j-1) QDW;have e1:=hc1 (j-1) QDq;have e2:=hc2 (j-1) QDW;have i1:(k:Int)<(j:Int):=QQ;have i2:(j:Int)-1=((j-1:Nat):Int):=QQ;have i3:((j-1:Nat):Int)<(n:Int):=QQ;generalize j-1=p at *;clear hc1 hc2 hend;exact QHG
       ·have i1:¬(k:Int)<(j:Int):=by omega
        clear hend;exact QHG
      case rest=>
       obtain⟨rfl,m4,rfl⟩:=hcut;rcases Z9 k j with hlt|hge
       ·have i1:(k:Int)<(j:Int):=by omega
        clear hend;go_wp2;go_ret3
        exact⟨by simp[hlt],_,rfl⟩
       ·have i1:¬(k:Int)<(j:Int):=by omega
        clear hend;go_wp2;go_ret3
        exact⟨QY,_,rfl⟩
     ·have h2:ix A (j-1)=ix B (j-1):=by
       by_cases h:ix A (j-1)=ix B (j-1)
       ·exact h
       ·exact absurd (.inr h) hend
      have h3:j≠k:=fun e=>hend (.inl e)
      have hyj:y<j:=by
       rcases Z9 y j with h|h
       ·exact h
       ·obtain rfl:j=y:=by omega
        exact absurd h2 (HR.out.ends QQ).2
      have hne:(ix A (j-1)==ix B (j-1))=true:=QEZ;obtain⟨b',o',rfl,hc1⟩:=a4.at (k:=j-1) QDq;obtain⟨b'',o'',rfl,hc2⟩:=b4.at (k:=j-1) QDW;have e1:=hc1 (j-1) QDq;have e2:=hc2 (j-1) QDW;have i1:(k:Int)<(j:Int):=QQ;have i2:(j:Int)-1=((j-1:Nat):Int):=QQ;have i3:((j-1:Nat):Int)<(n:Int):=QQ;clear hc1 hc2 hend h2;go_upto_region 3 with fail
      go_quiet (fail)
      all_goals
       go_wp2;go_roundw
       case rel=>exact⟨j-1,rfl,QQ,QQ,_,QM⟩
       case measure=>simp[intOf];omega
  ·have h2:ix A k=ix B k:=by
    by_cases h:ix A k=ix B k
    ·exact h
    ·exact absurd (.inr h) hend
   have h3:k≠t:=fun e=>hend (.inl e)
   have hkx:k<x:=by
    rcases Z9 k x with h|h
    ·exact h
    ·obtain rfl:k=x:=by omega
     rcases Z9 k y with h4|h4
     ·exact absurd h2 (HR.out.ends h4).1
     ·exact absurd (HR.out.none QQ) h3
   have hne:(ix A k==ix B k)=true:=QEZ;obtain⟨b',o',rfl,hc1⟩:=a4.at (k:=k) QDq;obtain⟨b'',o'',rfl,hc2⟩:=b4.at (k:=k) QDW;have e1:=hc1 k QDq;have e2:=hc2 k QDW;have i1:(k:Int)<(t:Int):=QQ;have i2:(k:Int)<(n:Int):=QQ;clear hc1 hc2 hend h2 h3;go_upto_region 1 with fail
   go_quiet (fail)
   all_goals
    go_wp2;go_roundw
    case rel=>exact⟨k+1,Qy,QQ,QQ,_,QM⟩
    case measure=>simp[intOf];omega
theorem Dp{ops:Array Oper}{o:Oper}{a:Act}{K:Act->World->Prop}{Q:Exit->Act->World->Prop}{w:World}{E:Prop}(hw:Region.wanted o (yielded ops a.tmps)=true)(s x:Operand)
  (ho:o.op=.call {callee:=.builtin .append,args:=#[s,x],argTypes:=#[22,22]})
  (base:Nat) (v:Value) (xs ys:List Int) (ad:Option Addr) (m c:Nat) (hs:a.eval s=v) (hx:a.eval x=.slice ad m c)
  (hown:Own 3 base w v xs) (hy:Ints w ad ys) (hm:ys.length=m) (h0:ad=none->m=0) (hl:xs.length+m<=17592186044416) (hbase:base<=w.heap.size)
  (h:∀v' w',Own 3 base w' v' (xs++ys)->w.grownBy w' v.ownBlock->K (a.put o.dst v') w'):
  if Region.wanted o (yielded ops a.tmps)=true then Oper.wp Tryz.prog o a w K Q else E:=by
 rw[if_pos hw];rcases ad with _|ad
 ·obtain rfl:m=0:=h0 rfl
  obtain rfl:ys=[]:=ZM hm;have hr:=W9 w o.type v xs base c hown QQ;unfold Oper.wp execOp;simp only[ho,resolve,invoke,builtin,Sem.run_bind,Sem.run_pure,Y4,List.map_toArray,List.map_cons,List.map_nil,hs,hx,hr];exact h v w QEd ⟨rfl,rfl,rfl,ZB _,fun _ _ _=>rfl⟩
 ·exact PL s x ho base v xs ys ad m c hs hx hown hy hm hl hbase fun v' w' h1 h2 _=>h v' w' h1 h2
def JT(base:Nat)(w:World)(J:Nat)(cv:Value)(p:Nat)(s:List Int)(m:Nat):Prop:=
 ∃sv,Za w J #[cv,.int .i64 (p:Int),sv] 175/\Own 3 base w sv s/\base<=J/\s.length<=400*m
def Rp(base J:Nat)(cv:Value)(p:Nat)(s:List Int)(m:Nat)(w:World)(e:Ending)(w':World):Prop:=
 e=.returned (.pointer (some ⟨J,0,none⟩))/\JT base w' J cv p s m/\Below base w w'/\w.heap.size<=w'.heap.size
theorem Own.sl0{e:TypeId}{base:Nat}{w:World}{a:Option Addr}{n c:Nat}{xs:List Int}(h:Own e base w (.slice a n c) xs):a=none->n=0:=h.sl.get.2.2.2.2
theorem vg(B:List Int)(f t:Nat)(ht:t<=B.length):(YN B f t).length<=f+t+1:=by
 unfold YN;split
 ·rw[Xk,Zi];omega
 ·split
  ·rw[YD];omega
  ·rw[Xq,Zi];omega
theorem Yn.JX{base:Nat}{w w':World}{v:Value}{xs:List Int}(h:Yn (fun x=>x<base) w v xs)(hb:Below base w w'):Yn (fun x=>x<base) w' v xs:=
 h.keep fun q v hq hc=>by
  unfold World.cell? at hc ⊢;rw[hb.block _ hq];exact hc
structure JW (base J:Nat) (w0 w:World) (cs:Array Value) (sv:Value) (s:List Int):Prop where
 blk:Za w J cs 175
 own:Own 3 base w sv s
 Xw:Below base w0 w
theorem JW.set{base J:Nat}{w0 w:World}{cs:Array Value}{sv:Value}{s:List Int}(h:JW base J w0 w cs sv s)(hb:base<=J)(i:Nat)(v:Value):JW base J w0 (w.setCell ⟨J,i,none⟩ v) (cs.setIfInBounds i v) sv s:=
 ⟨h.blk.set i v,h.own.other (a:=⟨J,i,none⟩) (h.own.XP h.blk QZ) v,h.Xw.setCell (p:=⟨J,i,none⟩) hb v⟩
theorem JW.fin{base J:Nat}{w0 w:World}{cs:Array Value}{cv sv:Value}{p:Nat}{s:List Int}{m:Nat}(h:JW base J w0 w cs sv s)(hc:cs=#[cv,.int .i64 (p:Int),sv])(hb:base<=J)(hl:s.length<=400*m):Rp base J cv p s m w0 (.returned (.pointer (some ⟨J,0,none⟩))) w:=by
 subst hc;exact⟨rfl,⟨sv,h.blk,h.own,hb,hl⟩,h.Xw,h.Xw.size⟩
theorem Jz(base J m:Nat)(a:Option Addr)(n c p k:Nat)(B s:List Int)(w:World)(hs:Yn (fun x=>x<base) w (.slice a n c) B)(h:JT base w J (.slice a n c) p s m)(hp:p<=n)(hk:k<=n)(hn:n<=120)(hm:m<=100):
  Calls Tryz.prog 103 #[.pointer (some ⟨J,0,none⟩),.int .i64 (k:Int)] w (Rp base J (.slice a n c) k (s++YN B p k) (m+1) w):=by
 obtain⟨sv,hB,hown,Tm,hl⟩:=h;obtain⟨sa,sn,sc,rfl⟩:=hown.form;have hJ:=hB.lt;have hwl:=vg B p k (by rw[hs.get.1];exact hk);have hsl:=hs.sl;obtain⟨c0,c1,c2,g0,g1,g2⟩:=hB.three;go_enter Tryz.func103,Tryz.ntmps103
 go_wp2
 go_region_law (first|(go_simp;go_at_call 132;refine(Ty a n c p k B _ hsl.drew hp hk hn).mono ?_;rintro e w8 ⟨v8,rfl,o8,XH⟩;obtain⟨a8,n8,c8,rfl⟩:=o8.form;have Uq:=hB.drew.below XH hB.drew.lt;obtain⟨k0,k1,k2,l0,l1,l2⟩:=Uq.three;have OJ:=hown.drew.kept XH)|(refine Dp QDu _ _ rfl base (.slice sa sn sc) s _ _ _ _ rfl rfl OJ o8.get.2.1 o8.get.1 o8.sl0 (by rw[<-o8.get.1];omega) (Zf (Zf Tm (Xh hJ)) XH.size) ?_;intro v9 w9 o9 Xm;obtain⟨a9,n9,c9,rfl⟩:=o9.form;have U7:=Uq.grown Xm (OJ.XP Uq QZ);obtain⟨m0,m1,m2,q0,q1,q2⟩:=U7.three))
 all_goals
  have hW9:JW base J w w9 _ _ _:=⟨U7,o9,((ZH base w).drew.trans (XH.mono (Zf Tm (Xh hJ)))).grown Xm (Zf (Zf Tm (Xh hJ)) XH.size) OJ.row⟩;have HW9:=Zy hW9;clear hW9 U7 o9 XH Uq OJ hB hown Xm hs hsl;go_wp2;go_ret;exact((HW9.out.set Tm 2 _).set Tm 1 _).fin QJ Tm (by rw[ZN];omega)
theorem Kg(base J m:Nat)(a:Option Addr)(n c p f t:Nat)(B s:List Int)(w:World)(hs:Yn (fun x=>x<base) w (.slice a n c) B)(h:JT base w J (.slice a n c) p s m)(hp:p<=n)(hf:f<=t)(ht:t<=n)(hn:n<=120)(hm:m<=90):
  Calls Tryz.prog 104 #[.pointer (some ⟨J,0,none⟩),.int .i64 (f:Int),.int .i64 (t:Int)] w (Rp base J (.slice a n c) t ((s++YN B p f)++YN B f t) (m+2) w):=by
 have hto:=Jz base J m a n c p f B s w hs h hp QQ hn QQ;have hwl:=vg B p f (by rw[hs.get.1];omega);obtain⟨s1,s2,s3,s4,s5⟩:=hs.get;go_enter Tryz.func104,Tryz.ntmps104
 go_wp2_with fail
 refine hto.mono ?_;rintro e w2 ⟨rfl,⟨sv,hB,hown,Tm,hl2⟩,hb2,hz2⟩;obtain⟨sa,sn,sc,rfl⟩:=hown.form;have hJ:=hB.lt;obtain⟨c0,c1,c2,g0,g1,g2⟩:=hB.three;have hs2:=hs.JX hb2;have hI:=hs2.get.2.2.2.1.Bt (c:=c) f t (by rw[s1];omega) hf (by rw[s1];omega);have hcr:=zl a n c f t hf QQ;have hlen:((B.take t).drop f).length=t-f:=by rw[Xk,Zi,s1];omega
 have hw:YN B f t=(B.take t).drop f:=by unfold YN;rw[if_pos hf]
 have HL:=Zy hlen;have HS:=Zy s1;have hsl:(s++YN B p f).length<=100000:=QQ;clear hlen s1 hto h;go_wp2
 go_region_law (refine Dp QDu _ _ rfl base (.slice sa sn sc) (s++YN B p f) ((B.take t).drop f) _ _ _ rfl rfl hown.drew hI.drew HL.out (fun e=>by have:=s5 (Vu e);omega) QQ QY ?_;intro v9 w9 o9 Xm;obtain⟨a9,n9,c9,rfl⟩:=o9.form;have U7:=hB.drew.grown Xm (hown.XP hB QZ);obtain⟨m0,m1,m2,q0,q1,q2⟩:=U7.three)
 all_goals
  have hW9:JW base J w w9 _ _ _:=⟨U7,o9,hb2.drew.grown Xm QY hown.row⟩;have HW9:=Zy hW9;have kz:w.heap.size<=w.heap.size:=ZB _;clear hW9 U7 o9 hB hown Xm hs hs2 hI;go_wp2;go_ret;rw[hw];exact((HW9.out.set Tm 2 _).set Tm 1 _).fin QJ Tm (by rw[ZN,HL.out];omega)
theorem Kq(base J m:Nat)(a:Option Addr)(n c p k:Nat)(B s:List Int)(w:World)(hs:Yn (fun x=>x<base) w (.slice a n c) B)(h:JT base w J (.slice a n c) p s m)(hp:p<=n)(hk:k<=n)(hn:n<=120)(hm:m<=90):
  Calls Tryz.prog 105 #[.pointer (some ⟨J,0,none⟩),.int .i64 (k:Int)] w (Rp base J (.slice a n c) k ((s++YN B p k)++[11]) (m+2) w):=by
 have hto:=Jz base J m a n c p k B s w hs h hp hk hn QQ;have hwl:=vg B p k (by rw[hs.get.1];omega);go_enter Tryz.func105,Tryz.ntmps105
 go_wp2_with fail
 refine hto.mono ?_;rintro e w2 ⟨rfl,⟨sv,hB,hown,Tm,hl2⟩,hb2,hz2⟩;obtain⟨sa,sn,sc,rfl⟩:=hown.form;have hJ:=hB.lt;obtain⟨c0,c1,c2,g0,g1,g2⟩:=hB.three;have hsl:(s++YN B p k).length<=100000:=QQ;clear hto h hs;have hBa:=hB.alloc (.cells #[.int .i64 11] 3);go_wp2_with (at_builtin;refine kL rfl _ _ rfl base _ (s++YN B p k) [11] _ 1 1 rfl rfl (hown.alloc _) (RG _ _) rfl QQ QY ?_;intro v9 w9 o9 Xm _;obtain⟨a9,n9,c9,rfl⟩:=o9.form;have U7:=hBa.grown Xm (hown.XP hB QZ);obtain⟨m0,m1,m2,q0,q1,q2⟩:=U7.three)
 have hW9:JW base J w w9 _ _ _:=⟨U7,o9,(hb2.alloc QQ _).grown Xm QY hown.row⟩;have HW9:=Zy hW9;clear hW9 U7 o9 hB hown Xm hBa;go_wp2;go_ret;exact(HW9.out.set Tm 2 _).fin QJ Tm (by rw[ZN,List.length_singleton];omega)
theorem J9(B2 B3:Nat)(a:Option Addr)(n c p:Nat)(w:World)(c3:w.cell? ⟨B3,0,none⟩=some (.slice a n c))(c2:w.cell? ⟨B2,1,none⟩=some (.int .i64 (p:Int))):
  Calls Tryz.prog 101 #[.pointer (some ⟨B3,0,none⟩),.pointer (some ⟨B2,0,none⟩)] w (fun e w'=>∃J,e=.returned (.pointer (some ⟨J,0,none⟩))/\w.heap.size<=J/\JT J w' J (.slice a n c) p [] 0/\Below w.heap.size w w'):=by
 go_enter Tryz.func101,Tryz.ntmps101
 go_wp2;go_ret;exact⟨_,rfl,ZB _,⟨_,Za.new _ _ _,Own.nil _ _ _,ZB _,QJ⟩,ZR _ _⟩
def Ug(c:Int):Bool:=decide (c<32) || c==127
def KS(xs:List Int)(p:Int):Int:=
 if xs.length<2\/120<xs.length\/p<0\/(xs.length:Int)<p then 1 else if xs.any Ug then 4 else 0
theorem QQt(c:Int)(w:World):
  Calls Tryz.prog 131 #[.int .i64 c] w fun e w'=>e=.returned (.bool (Ug c))/\w=w':=by
 go_enter Tryz.func131,Tryz.ntmps131
 go_wp2
 all_goals
  go_ret;exact⟨Xg (by unfold Ug;simp_all),rfl⟩
def vI(xs:List Int)(r:Int):Prop:=(∃k,k<xs.length/\Ug (ix xs k)=true/\r=(k:Int))\/((∀k,k<xs.length->Ug (ix xs k)=false)/\r= -1)
theorem vI.any{xs:List Int}{r:Int}(h:vI xs r):decide (0<=r)=xs.any Ug:=by
 rcases h with⟨k,h1,h2,rfl⟩|⟨h1,rfl⟩
 ·have:xs.any Ug=true:=List.any_eq_true.2 ⟨_,Bz h1,h2⟩
  rw[this];simp
 ·have:xs.any Ug=false:=by
   rw[List.any_eq_false];intro x hx;obtain⟨k,hk,rfl⟩:=List.getElem_of_mem hx;have:=h1 k hk;rw[Ya hk]at this;simp[this]
  rw[this];rfl
theorem Nu(a:Option Addr)(n c:Nat)(xs:List Int)(w:World)(ha:Ints w a xs)(hn:xs.length=n)(h2:n<=9223372036854775807):
  Calls Tryz.prog 27 #[.slice a n c,.func (.func 131) #[] #[]] w fun e w'=>∃r,e=.returned (.int .i64 r)/\vI xs r/\w=w':=by
 have HN:=Zy hn;clear hn;go_enter Tryz.func27,Tryz.ntmps27
 go_wp2
 go_loopw [8] (fun i wr=>∃k:Nat,i=.int .i64 (k:Int)/\k<=n/\(∀j,j<k->Ug (ix xs j)=false)/\w=wr) (fun i _=>n-(intOf i).toNat)
 case atStart=>exact⟨0,rfl,QQ,fun j hj=>QQ,rfl⟩
 case round=>
  obtain⟨k,rfl,hk,hno,rfl⟩:=hrel;have JM:=Zy hno;clear hno;by_cases hlt:k<n
  ·obtain⟨b1,o1,rfl,hc0⟩:=ha.at (k:=k) QW
   have ck:=hc0 k QW;have i1:(k:Int)<(n:Int):=QQ;clear hc0;go_wp2_with fail
   refine(QQt _ _).mono ?_;rintro e w' ⟨rfl,rfl⟩;rcases hb:Ug (ix xs k)with _|_
   ·have HB:=Zy hb
    clear hb;go_wp2;go_roundw
    case rel=>
     refine⟨k+1,Qy,QQ,?_,QC4⟩;intro j hj;rcases XZ.1 hj with h|rfl
     ·exact JM.out j h
     ·exact HB.out
    case measure=>simp[intOf];omega
   ·go_wp2
    go_ret;exact⟨_,rfl,.inl ⟨k,QW,hb,rfl⟩,rfl⟩
  ·have HR:=Zy (show vI xs (-1)from Or.inr (And.intro (fun j hj=>JM.out j QEV) rfl))
   go_wp2;go_ret;exact⟨_,rfl,HR.out,rfl⟩
theorem Cb(a:Option Addr)(n c:Nat)(xs:List Int)(w:World)(ha:Ints w a xs)(hn:xs.length=n)(h2:n<=9223372036854775807):
  Calls Tryz.prog 9 #[.slice a n c,.func (.func 131) #[] #[]] w fun e w'=>e=.returned (.bool (xs.any Ug))/\w=w':=by
 have HN:=Zy hn;clear hn;go_enter Tryz.func9,Tryz.ntmps9
 go_wp2_with fail
 refine(Nu a n c xs w ha HN.out h2).mono ?_;rintro e w' ⟨r,rfl,hr,rfl⟩;go_wp2;go_ret;exact⟨Xg hr.any,rfl⟩
theorem NS{xs:List Int}{p:Int}(h:xs.length<2\/120<xs.length\/p<0\/(xs.length:Int)<p):KS xs p=1:=if_pos h
theorem TQ{xs:List Int}{p:Int}(h:¬(xs.length<2\/120<xs.length\/p<0\/(xs.length:Int)<p)):KS xs p=if xs.any Ug then 4 else 0:=if_neg h
theorem Ak(a:Option Addr)(n c:Nat)(xs:List Int)(p:Int)(w:World)(ha:Ints w a xs)(hn:xs.length=n)(h2:n<=9223372036854775807):
  Calls Tryz.prog 100 #[.agg #[.slice a n c,.int .i64 p]] w fun e w'=>e=.returned (.int .i64 (KS xs p))/\Below w.heap.size w w':=by
 have HN:=Zy hn;have hb1:=ZR w (.cells #[.slice a n c,.int .i64 p] 51);by_cases hok:n<2\/120<n\/p<0\/(n:Int)<p
 ·have HE:=Zy (NS (xs:=xs) (p:=p) (by rw[hn];exact hok))
  clear hn;go_enter Tryz.func100,Tryz.ntmps100
  by_cases e1:n<2
  ·go_wp2
   exact QIn
  ·by_cases e2:120<n
   ·go_wp2
    exact QIn
   ·by_cases e3:p<0
    ·go_wp2
     exact QIn
    ·have e4:(n:Int)<p:=by omega
     go_wp2;exact QIn
 ·have HE:=Zy (TQ (xs:=xs) (p:=p) (by rw[hn];exact hok))
  have e1:2<=n:=QQ;have e2:n<=120:=QQ;have e3:0<=p:=QQ;have e4:p<=(n:Int):=QQ;clear hn hok;go_enter Tryz.func100,Tryz.ntmps100
  go_wp2_with fail
  refine(Cb a n c xs _ (ha.below hb1) HN.out h2).mono ?_;rintro e w' ⟨rfl,rfl⟩;rcases hb:xs.any Ug with _|_
  ·have HF:=Zy (show KS xs p=0 by rw[HE.out,hb];rfl)
   clear hb;go_wp2;go_ret;exact⟨XE HF.out.symm,hb1⟩
  ·have HF:=Zy (show KS xs p=4 by rw[HE.out,hb];rfl)
   clear hb;go_wp2;go_ret;exact⟨XE HF.out.symm,hb1⟩
end Go.Proofs.YtmdnepkekekncaaGreat
