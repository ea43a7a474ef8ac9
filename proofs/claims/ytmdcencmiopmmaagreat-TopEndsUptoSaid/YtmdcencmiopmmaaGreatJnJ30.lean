/- joined, no condition of its own. -/
import Derived.Test.YtmdcencmiopmmaaGreatJnT
import Derived.Test.YtmdcencmiopmmaaGreatJnJ1
import Derived.Test.YtmdcencmiopmmaaGreatJnJ2
import Derived.Test.YtmdcencmiopmmaaGreatJnJ3
import Derived.Test.YtmdcencmiopmmaaGreatJnJ14
import Derived.Test.YtmdcencmiopmmaaGreatJnJ20
import Derived.Test.YtmdcencmiopmmaaGreatJnJ29
set_option linter.unusedVariables false
set_option linter.unusedSimpArgs false
set_option maxRecDepth 100000
set_option maxHeartbeats 12000000
namespace Go.Proofs.YtmdcencmiopmmaaGreat
open Go.RowKit
def uA(s:ByteArray):List Int:=(List.range s.size).map (bt s)
theorem VT(s:ByteArray):(uA s).length=s.size:=by simp[uA]
theorem eT{s:ByteArray}{k:Nat}(h:k<s.size):ix (uA s) k=bt s k:=by
 rw[Yw (by rw[VT];exact h)];simp[uA]
theorem PN{l:List Int}{k:Nat}(hk:k<l.length):WK (l.take (k+1))=(WK (l.take k)).take (ix l k):=by
 unfold WK;rw[ib hk,List.foldl_append];rfl
def MS.ok(m:MS):Prop:=m.ah=[]\/(m.ah.length:Int)<xk (ix m.ah 0)
theorem rE(b:Int):0<=xk b/\xk b<=4:=by
 unfold xk;repeat' split
 all_goals omega
theorem MS.ok.len{m:MS}(h:m.ok):m.ah.length<=3:=by
 rcases h with h|h
 ·rw[h];simp
 ·have:=rE (ix m.ah 0);omega
theorem QXu{m:MS}:m.brk.ah=[]:=by
 unfold MS.brk;split
 ·assumption
 ·rfl
theorem aD{m:MS}(b:Int)(h:m.ok):(m.put b).ok:=by
 unfold MS.put;split
 ·exact .inl rfl
 ·rename_i h1
  split
  ·exact .inl rfl
  ·rename_i h2
   refine .inr ?_;simp only[Zd,XD,List.length_nil];by_cases he:m.ah=[]
   ·rw[he]at h1 h2 ⊢
    simp only[List.nil_append,List.length_nil]at h2 ⊢;rw[show ix [b] 0=b from rfl]at h2 ⊢;have:=rE b;simp at h1;omega
   ·rcases h with h|h
    ·exact absurd h he
    ·have hl:0<m.ah.length:=X6.2 he
     rw[YN hl]at h2 ⊢;omega
theorem iT(m:MS)(b:Int)(h:m.ok):(m.take b).ok:=by
 unfold MS.take;split
 ·exact aD b (.inl QXu)
 ·exact aD b h
theorem lV(l:List Int):(WK l).ok:=by
 unfold WK;have:∀(m:MS),m.ok->(l.foldl MS.take m).ok:=by
  induction l with
  | nil=>intro m h;exact h
  | cons a r ih=>intro m h;rw[List.foldl_cons];exact ih _ (iT m a h)
 exact this _ (.inl rfl)
theorem Oq(m:MS)(b:Int):(m.put b).out.length<=m.out.length+1:=by
 unfold MS.put;repeat' split
 all_goals simp
theorem take_len(m:MS)(b:Int):(m.take b).out.length<=m.out.length+2:=by
 unfold MS.take;split
 ·have:=Oq m.brk b;have:=Og m;omega
 ·have:=Oq m b;omega
theorem Gm(l:List Int):(WK l).out.length<=2*l.length:=by
 unfold WK;have:∀(m:MS),(l.foldl MS.take m).out.length<=m.out.length+2*l.length:=by
  induction l with
  | nil=>intro m;simp
  | cons a r ih=>
   intro m;rw[List.foldl_cons];have h1:=ih (m.take a);have h2:=take_len m a;simp only[XD];omega
 simpa using this ⟨[],[]⟩
def A8(s:ByteArray)(w:World)(e:Ending)(w':World):Prop:=∃M av ov,e=.returned (.pointer (some ⟨M,0,none⟩))/\w.heap.size<=M/\Su w' M av ov (WK (uA s))/\Below w.heap.size w w'
theorem IB(s:ByteArray)(w:World)(hs:s.size<=2097150):Calls Tryz.prog 81 #[.string s] w (A8 s w):=by
 have hM0:Su (w.alloc (.cells #[.slice none 0 0,.slice none 0 0] 171)) w.heap.size (.slice none 0 0) (.slice none 0 0) (WK ((uA s).take 0)):=
  ⟨Za.new w _ _,XT.nil _ _ _,Own.nil _ _ _,fun x hx=>by simp[WK]at hx⟩
 have hb0:=ZT w (.cells #[.slice none 0 0,.slice none 0 0] 171);go_enter Tryz.func81,Tryz.ntmps81
 go_upto_region 3 with fail
 generalize(w.alloc (.cells #[.slice none 0 0,.slice none 0 0] 171))=w1 at *
 go_loopw [9] (fun i wr=>∃k:Nat,i=.int .i64 (k:Int)/\k<=s.size/\(∃av ov,Su wr w.heap.size av ov (WK ((uA s).take k)))/\Below w.heap.size w wr) (fun i _=>s.size-(intOf i).toNat)
 case atStart=>exact⟨0,rfl,QQ,⟨_,_,hM0⟩,hb0⟩
 case round=>
  obtain⟨k,rfl,hk,⟨av,ov,hM⟩,hb⟩:=hrel;by_cases hlt:k<s.size
  ·have i1:(k:Int)<(s.size:Int):=by omega
   have hbi:=eP hlt;obtain⟨r0,r1⟩:=Uc s k;have HT:=Zy (PN (l:=uA s) (k:=k) (by rw[VT];exact hlt));rw[eT hlt]at HT;have HL:=Zy (Gm ((uA s).take k));rw[Zp,VT]at HL;have HK:=Zy (lV ((uA s).take k)).len;generalize WK ((uA s).take k)=m at *;have HM:=Zy hM;clear hM;go_wp2_with fail
   refine(Rm w.heap.size av ov m (bt s k) _ HM.out r0 r1 HK.out (by have:=HL.out;omega)).mono ?_;rintro e w3 ⟨rfl,hM3,hb3⟩;go_wp2;go_roundw
   case rel=>exact⟨k+1,Qk,QQ,by rw[HT.out];exact hM3,hb.trans hb3⟩
   case measure=>simp[intOf];omega
  ·obtain rfl:k=s.size:=by omega
   have HT:=Zy (show(uA s).take s.size=uA s by rw[<-VT s];exact List.take_length);rw[HT.out]at hM;have HM:=Zy hM;clear hM;go_wp2;go_ret;exact⟨_,_,_,rfl,ZB _,HM.out,hb⟩
def K4(s:ByteArray):MS:=WK (uA s)
theorem aJ(s:ByteArray):(K4 s).out.length<=2*s.size:=by
 have:=Gm (uA s)
 rwa[VT]at this
def rV(v:Int)(w:World)(e:Ending)(w':World):Prop:=e=.returned (.int .i64 v)/\Below w.heap.size w w'
theorem AR(s:ByteArray)(w:World)(hs:s.size<=2097150):Calls Tryz.prog 80 #[.string s] w (rV (if(K4 s).out=[]then 0 else 4) w):=by
 have HR:=Zy (IB s w hs);have HO:=Zy (show WK (uA s)=K4 s from rfl);unfold A8 at HR;rw[HO.out]at HR;generalize K4 s=m at *;obtain⟨v,hv⟩:∃v:Int,(if m.out=[]then(0:Int)else 4)=v:=⟨_,rfl⟩;rw[hv];have HV:=Zy hv;clear hv;go_enter Tryz.func80,Tryz.ntmps80
 go_wp2_with fail
 refine HR.out.mono ?_;rintro e w1 ⟨M,av,ov,rfl,hMw,hM,hb⟩;obtain⟨a2,n2,k2,rfl⟩:=hM.out.form;have g:=hM.out.get.1;obtain⟨c0,c1,-,-⟩:=hM.blk.two;by_cases hn:n2=0
 ·have HE:=Zy (show m.out=[]from Ze QQ)
  subst hn;clear g hM;go_wp2;go_ret;refine⟨?_,hb⟩;rw[<-HV.out,if_pos HE.out];rfl
 ·have HE:=Zy (show m.out≠[] by intro e;rw[e]at g;simp at g;omega)
  have i1:(0:Int)<(n2:Int):=QQ;clear g hM hn;go_wp2;go_ret;refine⟨?_,hb⟩;rw[<-HV.out,if_neg HE.out];rfl
def gK(q:ByteArray)(L:List Int)(er:Int)(w:World)(e:Ending)(w':World):Prop:=
 ∃v,e=.returned (.tuple #[.string q,v,.int .i64 er])/\Own 3 w.heap.size w' v L/\Below w.heap.size w w'
theorem kN(p s:ByteArray)(w:World)(hp:p.size<=2097150)(h:(K4 p).out=[])(hs:4096<s.size):Calls Tryz.prog 47 #[.string p,.string s] w (gK ⟨#[]⟩ [] 2 w):=by
 have HC:=Zy (AR p w hp);rw[if_pos h]at HC;have i1:(4096:Int)<(s.size:Int):=QQ;clear h;go_enter Tryz.func47,Tryz.ntmps47
 go_wp2_with fail
 refine HC.out.mono ?_;rintro e w1 ⟨rfl,hb⟩;go_wp2;go_ret3
 exact⟨_,rfl,Own.nil _ _ _,hb⟩
theorem Fq(p s:ByteArray)(w:World)(hp:p.size<=1048576)(h:(K4 p).out=[])(hs:s.size<=4096):Calls Tryz.prog 47 #[.string p,.string s] w (gK (Cn (K4 (p++s)).ah) (K4 (p++s)).out 0 w):=by
 have HC:=Zy (AR p w QQ);rw[if_pos h]at HC;have i1:¬(4096:Int)<(s.size:Int):=QQ;have hsz:(p++s).size=p.size+s.size:=ByteArray.size_append;have HR:=Zy (fun w=>IB (p++s) w QQ);have HO:=Zy (show WK (uA (p++s))=K4 (p++s)from rfl);unfold A8 at HR;rw[HO.out]at HR;generalize K4 (p++s)=m at *;clear h;go_enter Tryz.func47,Tryz.ntmps47
 go_wp2_with fail
 refine HC.out.mono ?_;rintro e w1 ⟨rfl,hb⟩;go_wp2_with fail
 refine(HR.out _).mono ?_;rintro e w2 ⟨M,av,ov,rfl,hMw,hM,hb2⟩;have hbb:=ZE hb hb.size hb2;obtain⟨a1,n1,k1,rfl⟩:=hM.ah.form;obtain⟨a2,n2,k2,rfl⟩:=hM.out.form;have hcv:=fun n=>(hM.ah.drewN n).conv hM.byt
 obtain⟨c0,c1,-,-⟩:=hM.blk.two;have HM:=Zy hM;have hz:=hb.size;have ha1:a1=none->n1=0:=hM.ah.Hg.2.2;clear hM;go_upto_region 7 with fail
 go_quiet (fail)
 go_wp2;go_ret3
 exact⟨_,rfl,(HM.out.out.mono QQ).drewN _,below_drewN hbb _⟩
def Kt(n at' off width:Int):Int×Int:=
 if n<0\/200<n\/at'<0\/n<at'\/off<0\/200<off\/width<2\/120<width then(0,1)
 else if at'<off then(at',0)
 else if off+width<=at' then(at'-width+1,0)else(off,0)
theorem qC(n at' off width:Int)(w:World):
  Calls Tryz.prog 91 #[.int .i64 n,.int .i64 at',.int .i64 off,.int .i64 width] w fun e w'=>e=.returned (.tuple #[.int .i64 (Kt n at' off width).1,.int .i64 (Kt n at' off width).2])/\w=w':=by
 go_enter Tryz.func91,Tryz.ntmps91
 go_wp2
 all_goals(go_ret2;refine⟨xN ?_ ?_,rfl⟩<;>(unfold Kt;(repeat' split)<;>first|rfl|omega))
def cellS(c:Int):Int:=if c<32\/c=127\/c=65533 then 63 else c
theorem PZ(c:Int)(w:World):
  Calls Tryz.prog 67 #[.int .i64 c] w fun e w'=>e=.returned (.int .i64 (cellS c))/\w=w':=by
 go_enter Tryz.func67,Tryz.ntmps67
 go_wp2
 all_goals(go_ret;refine⟨XA ?_,rfl⟩;unfold cellS;simp_all;try omega)
def XE(at' off width:Int):Int:=if at'<off then at' else if off+width<=at' then at'-width+1 else off
def KP(l:List Int)(off width:Int):List Int:=(List.range width.toNat).map fun i=>if off.toNat+i<l.length then cellS (ix l (off.toNat+i))else 32
theorem JO(l:List Int)(off width:Int):(KP l off width).length=width.toNat:=by simp[KP]
theorem Cj{l:List Int}{off width:Int}{k:Nat}(h:k<width.toNat):(KP l off width).take (k+1)=(KP l off width).take k++[if off.toNat+k<l.length then cellS (ix l (off.toNat+k))else 32]:=by
 rw[XX (by rw[JO];exact h)];simp[KP]
end Go.Proofs.YtmdcencmiopmmaaGreat
namespace Go.Proofs.YtmdcencmiopmmaaGreat
def YH(B:List Int)(f t:Nat):List Int:=
 if f<=t then(B.take t).drop f else if f-t<=1+t then List.replicate (f-t) 8 else 13::B.take t
def goS(B:List Int)(k:Nat)(s:Nat×List Int):Nat×List Int:=(k,s.2++YH B s.1 k)
def Tc(B:List Int)(s:Nat×List Int)(p:Nat×Option Nat):Nat×List Int:=
 match p.2 with
 | none=>((goS B p.1 s).1,(goS B p.1 s).2++[11])
 | some y=>goS B y (goS B p.1 s)
def zI(B:List Int)(pa:Nat)(steps:List (Nat×Option Nat))(pb:Nat):List Int:=(goS B pb (steps.foldl (Tc B) (pa,[]))).2
def Jc(b s:List Int):List Int:=if s.length<b.length then s else b
def KZ(b:List Int)(l:List (List Int)):List Int:=l.foldl Jc b
theorem Ar(b:List Int)(l:List (List Int))(s:List Int):KZ b (l++[s])=Jc (KZ b l) s:=by simp[KZ]
theorem yC(b:List Int)(l m:List (List Int)):KZ b (l++m)=KZ (KZ b l) m:=by simp[KZ]
def VO(lo hi p:Nat):List (List (Nat×Option Nat)):=
 if lo<hi then[[(lo,some hi),(p,none)],[(p,none),(lo,some hi)]]else[[(p,none)]]
def U3(lo hi full:Nat):Nat->List (List (Nat×Option Nat))
 | 0=>[]
 | k+1=>U3 lo hi full k++VO lo hi (full+k)
def Um(B:List Int)(pa pb x y full lo hi fi la:Nat):List Int:=
 if x<y then
  (if fi<la then KZ (zI B pa [(x,some y)] pb) ((U3 lo hi full (fi+1-full)).map (fun p=>zI B pa p pb))else zI B pa [(x,some y)] pb)
 else zI B pa [] pb
theorem Cf(B:List Int)(pa pb x y full lo hi fi la:Nat):
  (y<=x->Um B pa pb x y full lo hi fi la=[]++YH B pa pb)/\
  (x<y->la<=fi->Um B pa pb x y full lo hi fi la=(([]++YH B pa x)++YH B x y)++YH B y pb)/\
  (x<y->fi<la->Um B pa pb x y full lo hi fi la=KZ ((([]++YH B pa x)++YH B x y)++YH B y pb) ((U3 lo hi full (fi+1-full)).map (fun p=>zI B pa p pb))):=by
 refine⟨fun h=>?_,fun h h2=>?_,fun h h2=>?_⟩
 ·unfold Um;rw[if_neg QQ];rfl
 ·unfold Um;rw[if_pos h,if_neg QQ];rfl
 ·unfold Um;rw[if_pos h,if_pos h2];rfl
structure FE (A B:List Int) (f t x y:Nat):Prop where
 fx:f<=x
 xy:x<=y
 yt:y<=t
 lo:∀i,f<=i->i<x->ix A i=ix B i
 hi:∀i,y<=i->i<t->ix A i=ix B i
 ends:x<y->ix A x≠ix B x/\ix A (y-1)≠ix B (y-1)
 none:x=y->x=t
theorem FE.exists(A B:List Int)(f t:Nat)(h:f<=t):∃x y,FE A B f t x y:=by
 induction t with
 | zero=>exact⟨f,0,QQ,QQ,ZB _,fun i h1 h2=>QQ,fun i h1 h2=>QQ,fun h=>QQ,fun h=>QQ⟩
 | succ t ih=>
  rcases Z7 t f with hlt|hge
  ·obtain rfl:f=t+1:=by omega
   exact⟨t+1,t+1,ZB _,ZB _,ZB _,fun i h1 h2=>QQ,fun i h1 h2=>QQ,fun h=>QQ,fun h=>rfl⟩
  ·obtain⟨x,y,h1,h2,h3,h4,h5,h6,h7⟩:=ih hge
   by_cases he:ix A t=ix B t
   ·rcases Z7 x y with hxy|hxy
    ·refine⟨x,y,h1,h2,QQ,h4,fun i hi1 hi2=>?_,h6,fun h=>QQ⟩
     rcases Z7 i t with hi|hi
     ·exact h5 i hi1 hi
     ·obtain rfl:i=t:=by omega
      exact he
    ·have hxt:=h7 QQ
     refine⟨t+1,t+1,QQ,ZB _,ZB _,fun i hi1 hi2=>?_,fun i hi1 hi2=>QQ,fun h=>QQ,fun h=>rfl⟩;rcases Z7 i t with hi|hi
     ·exact h4 i hi1 QQ
     ·obtain rfl:i=t:=by omega
      exact he
   ·rcases Z7 x y with hxy|hxy
    ·exact⟨x,t+1,h1,QQ,ZB _,h4,fun i hi1 hi2=>QQ,fun _=>⟨(h6 hxy).1,he⟩,fun h=>QQ⟩
    ·have hxt:=h7 QQ
     exact⟨x,t+1,h1,QQ,ZB _,h4,fun i hi1 hi2=>QQ,fun _=>⟨by rw[hxt];exact he,he⟩,fun h=>QQ⟩
structure O1 (B:List Int) (n full:Nat):Prop where
 le:full<=n
 blank:∀i,full<=i->i<n->ix B i=32
 last:0<full->ix B (full-1)≠32
theorem O1.exists(B:List Int)(n:Nat):∃full,O1 B n full:=by
 induction n with
 | zero=>exact⟨0,ZB _,fun i h1 h2=>QQ,fun h=>QQ⟩
 | succ n ih=>
  by_cases h:ix B n=32
  ·obtain⟨f,h1,h2,h3⟩:=ih
   refine⟨f,QQ,fun i hi1 hi2=>?_,h3⟩;rcases Z7 i n with hi|hi
   ·exact h2 i hi1 hi
   ·obtain rfl:i=n:=by omega
    exact h
  ·exact⟨n+1,ZB _,fun i h1 h2=>QQ,fun _=>h⟩
end Go.Proofs.YtmdcencmiopmmaaGreat
namespace Go.Proofs.YtmdcencmiopmmaaGreat
open Go.RowKit
theorem QY0(k:Nat):qJ [8] k=List.replicate k 8:=by
 induction k with
 | zero=>rfl
 | succ k ih=>rw[List.replicate_succ,<-ih];rfl
theorem OG(w:World)(x:Int):Ints (w.alloc (.cells #[.int .i64 x] 3)) (some ⟨w.heap.size,0,none⟩) [x]:=
 .inr ⟨_,_,rfl,fun i hi=>by
  obtain rfl:i=0:=QAs;exact Y8 w (.int .i64 x) 3⟩
theorem bQ(w:World)(base:Nat)(x:Int)(hb:base<=w.heap.size):Own 3 base (w.alloc (.cells #[.int .i64 x] 3)) (.slice (some ⟨w.heap.size,0,none⟩) 1 1) [x]:=
 vI (xs:=[x]) (Za.new w #[.int .i64 x] 3) hb QJ
theorem Pn(a:Option Addr)(n c f t:Nat)(B:List Int)(w:World)(hs:Sl w (.slice a n c) B)(hf:f<=n)(ht:t<=n)(hn:n<=120):
  Calls Tryz.prog 206 #[.slice a n c,.int .i64 (f:Int),.int .i64 (t:Int)] w (zu (YH B f t) w):=by
 obtain⟨h1,h2,h3,h4,h5⟩:=hs.get;have HN:=Zy h1;clear h1 hs;rcases Z7 t f with hlt|hge
 ·have i1:¬(f:Int)<=(t:Int):=by omega
  by_cases hq:f-t<=1+t
  ·have hw:YH B f t=List.replicate (f-t) 8:=by unfold YH;rw[if_neg QQ,if_pos hq]
   rw[hw];have i2:(f:Int)-(t:Int)<=1+(t:Int):=QQ;have hI:=OG w 8;obtain⟨k,hk⟩:∃k,f-t=k:=⟨_,rfl⟩;have i3:(f:Int)-(t:Int)=(k:Int):=QQ;rw[hk];have hk4:k<=4096:=QQ;have hc:=Vh _ 1 1 k [8] _ hI rfl hk4 QZ;clear h5 h3;go_enter Tryz.func206,Tryz.ntmps206
   go_wp2_with fail
   refine hc.mono ?_;rintro e w2 ⟨v,rfl,hown,hb2⟩;have hb:=ZE (ZT w (.cells #[.int .i64 8] 3)) QJ hb2;go_wp2;go_ret;rw[QY0]at hown;exact⟨_,rfl,hown.mono QJ,hb⟩
  ·have hw:YH B f t=13::B.take t:=by unfold YH;rw[if_neg QQ,if_neg hq]
   rw[hw];have i2:¬(f:Int)-(t:Int)<=1+(t:Int):=QQ;have hcr:=xq a n c t QQ;have hI:=(h4.below (ZT w (.cells #[.int .i64 13] 3))).take t;have hl:(B.take t).length=t:=by rw[Zp,HN.out];omega
   have HL:=Zy hl;have ho:=bQ w w.heap.size 13 (ZB _);clear hl h3;go_enter Tryz.func206,Tryz.ntmps206
   go_wp2_with (at_builtin;refine QXA rfl _ _ rfl w.heap.size _ [13] (B.take t) _ t c rfl rfl ho hI HL.out (fun e=>by have:=h5 e;omega) QY QJ ?_;intro v1 w1 hown1 hgrow1)
   go_ret;exact⟨v1,rfl,hown1,(ZT w _).grown hgrow1 QJ ho.row⟩
 ·have hw:YH B f t=(B.take t).drop f:=by unfold YH;rw[if_pos hge]
  rw[hw];have i1:(f:Int)<=(t:Int):=QQ;have hcr:=zy a n c f t hge QQ;have hI:=h4.Ai (c:=c) f t QB hge QB;have hl:((B.take t).drop f).length=t-f:=by rw[Xy,Zp,HN.out];omega
  have HL:=Zy hl;clear hl h3;go_enter Tryz.func206,Tryz.ntmps206
  go_wp2_with fail
  refine(Zw _ _ _ _ _ hI HL.out QQ (fun e=>by have:=h5 (VQ e);omega)).mono ?_;rintro e w2 ⟨v,rfl,hown,hb2⟩;go_wp2;go_ret;exact⟨_,rfl,hown,hb2⟩
theorem zg(a b:Option Addr)(n ca cb f t x y:Nat)(A B:List Int)(w:World)(ha:Sl w (.slice a n ca) A)(hb:Sl w (.slice b n cb) B)(hf:f<=t)(ht:t<=n)(hn:n<=120)(hr:FE A B f t x y):
  Calls Tryz.prog 150 #[.slice a n ca,.slice b n cb,.int .i64 (f:Int),.int .i64 (t:Int)] w fun e w'=>e=.returned (.tuple #[.int .i64 (x:Int),.int .i64 (y:Int),.bool (decide (x<y))])/\∃n,w'=w.drewN n:=by
 obtain⟨a1,a2,a3,a4,a5⟩:=ha.get;obtain⟨b1,b2,b3,b4,b5⟩:=hb.get;have HA:=Zy a1;have HB:=Zy b1;clear a1 b1 ha hb a3 b3;have HR:=Zy hr;obtain⟨r1,r2,r3,-,-,-,r7⟩:=hr;clear r7;go_enter Tryz.func150,Tryz.ntmps150
 go_wp2
 go_loopw [2] (fun i wr=>∃k:Nat,i=.int .i64 (k:Int)/\f<=k/\k<=x/\∃n,wr=w.drewN n) (fun i _=>n-(intOf i).toNat)
 case atStart=>exact⟨f,rfl,ZB _,r1,0,rfl⟩
 case round=>
  obtain⟨k,rfl,hk1,hk2,m,rfl⟩:=hrel;by_cases hend:k=t\/¬(ix A k=ix B k)
  ·have hkx:k=x:=by
    rcases Z7 k x with h|h
    ·rcases hend with rfl|h2
     ·omega
     ·exact absurd (HR.out.lo k hk1 h) h2
    ·omega
   subst hkx;go_upto_region 1 with fail
   go_cut [24] (fun v wx=>v=.bool false/\∃n,wx=w.drewN n)
   case first=>
    rcases Z7 k t with hlt|hge
    ·have hne:(ix A k==ix B k)=false:=by
      rcases hend with rfl|h2
      ·omega
      ·simpa using h2
     obtain⟨b',o',rfl,hc1⟩:=a4.at (k:=k) Qv6;obtain⟨b'',o'',rfl,hc2⟩:=b4.at (k:=k) Qv5;have e1:=hc1 k Qv6;have e2:=hc2 k Qv5;have i1:(k:Int)<(t:Int):=QQ;have i2:(k:Int)<(n:Int):=QQ;clear hc1 hc2 hend;exact QEJ
    ·have i1:¬(k:Int)<(t:Int):=by omega
     clear hend;exact QEJ
   case rest=>
    obtain⟨rfl,m2,rfl⟩:=hcut;clear hend r1;go_wp2
    go_loopw [3] (fun i wr=>∃j:Nat,i=.int .i64 (j:Int)/\j<=t/\y<=j/\∃n,wr=w.drewN n) (fun i _=>(intOf i).toNat)
    case atStart=>exact⟨t,rfl,ZB _,r3,_,rfl⟩
    case round=>
     obtain⟨j,rfl,hj1,hj2,m3,rfl⟩:=hrel;by_cases hend:j=k\/¬(ix A (j-1)=ix B (j-1))
     ·have hjy:j=y:=by
       rcases Z7 y j with h|h
       ·rcases hend with rfl|h2
        ·omega
        ·exact absurd (HR.out.hi (j-1) QQ QQ) h2
       ·omega
      subst hjy;go_upto_region 3 with fail
      go_cut [42] (fun v wx=>v=.bool false/\∃n,wx=w.drewN n)
      case first=>
       rcases Z7 k j with hlt|hge
       ·have hne:(ix A (j-1)==ix B (j-1))=false:=by
         rcases hend with rfl|h2
         ·omega
         ·simpa using h2
        obtain⟨b',o',rfl,hc1⟩:=a4.at (k:=j-1) Qv6;obtain⟨b'',o'',rfl,hc2⟩:=b4.at (k:=j-1) Qv5;have e1:=hc1 (j-1) Qv6;have e2:=hc2 (j-1) Qv5;have i1:(k:Int)<(j:Int):=QQ;have i2:(j:Int)-1=((j-1:Nat):Int):=QQ;have i3:((j-1:Nat):Int)<(n:Int):=QQ;generalize j-1=p at *;clear hc1 hc2 hend;exact QEJ
       ·have i1:¬(k:Int)<(j:Int):=by omega
        clear hend;exact QEJ
      case rest=>
       obtain⟨rfl,m4,rfl⟩:=hcut;rcases Z7 k j with hlt|hge
       ·have i1:(k:Int)<(j:Int):=by omega
        clear hend;go_wp2;go_ret3
        exact⟨by simp[hlt],_,rfl⟩
       ·have i1:¬(k:Int)<(j:Int):=by omega
        clear hend;go_wp2;go_ret3
        exact⟨QY,_,rfl⟩
     ·have h2:ix A (j-1)=ix B (j-1):=by
       by_cases h:ix A (j-1)=ix B (j-1)
       ·exact h
       ·exact absurd (.inr h) hend
      have h3:j≠k:=fun e=>hend (.inl e)
      have hyj:y<j:=by
       rcases Z7 y j with h|h
       ·exact h
       ·obtain rfl:j=y:=by omega
        exact absurd h2 (HR.out.ends QQ).2
      have hne:(ix A (j-1)==ix B (j-1))=true:=QA0;obtain⟨b',o',rfl,hc1⟩:=a4.at (k:=j-1) Qv6;obtain⟨b'',o'',rfl,hc2⟩:=b4.at (k:=j-1) Qv5;have e1:=hc1 (j-1) Qv6;have e2:=hc2 (j-1) Qv5;have i1:(k:Int)<(j:Int):=QQ;have i2:(j:Int)-1=((j-1:Nat):Int):=QQ;have i3:((j-1:Nat):Int)<(n:Int):=QQ;clear hc1 hc2 hend h2;go_upto_region 3 with fail
      go_quiet (fail)
      all_goals
       go_wp2;go_roundw
       case rel=>exact⟨j-1,rfl,QQ,QQ,_,QL⟩
       case measure=>simp[intOf];omega
  ·have h2:ix A k=ix B k:=by
    by_cases h:ix A k=ix B k
    ·exact h
    ·exact absurd (.inr h) hend
   have h3:k≠t:=fun e=>hend (.inl e)
   have hkx:k<x:=by
    rcases Z7 k x with h|h
    ·exact h
    ·obtain rfl:k=x:=by omega
     rcases Z7 k y with h4|h4
     ·exact absurd h2 (HR.out.ends h4).1
     ·exact absurd (HR.out.none QQ) h3
   have hne:(ix A k==ix B k)=true:=QA0;obtain⟨b',o',rfl,hc1⟩:=a4.at (k:=k) Qv6;obtain⟨b'',o'',rfl,hc2⟩:=b4.at (k:=k) Qv5;have e1:=hc1 k Qv6;have e2:=hc2 k Qv5;have i1:(k:Int)<(t:Int):=QQ;have i2:(k:Int)<(n:Int):=QQ;clear hc1 hc2 hend h2 h3;go_upto_region 1 with fail
   go_quiet (fail)
   all_goals
    go_wp2;go_roundw
    case rel=>exact⟨k+1,Qk,QQ,QQ,_,QL⟩
    case measure=>simp[intOf];omega
theorem CE{ops:Array Oper}{o:Oper}{a:Act}{K:Act->World->Prop}{Q:Exit->Act->World->Prop}{w:World}{E:Prop}(hw:Region.wanted o (yielded ops a.tmps)=true)(s x:Operand)
  (ho:o.op=.call {callee:=.builtin .append,args:=#[s,x],argTypes:=#[26,26]})
  (base:Nat) (v:Value) (xs ys:List Int) (ad:Option Addr) (m c:Nat) (hs:a.eval s=v) (hx:a.eval x=.slice ad m c)
  (hown:Own 3 base w v xs) (hy:Ints w ad ys) (hm:ys.length=m) (h0:ad=none->m=0) (hl:xs.length+m<=17592186044416) (hbase:base<=w.heap.size)
  (h:∀v' w',Own 3 base w' v' (xs++ys)->w.grownBy w' v.ownBlock->K (a.put o.dst v') w'):
  if Region.wanted o (yielded ops a.tmps)=true then Oper.wp Tryz.prog o a w K Q else E:=by
 rw[if_pos hw];rcases ad with _|ad
 ·obtain rfl:m=0:=h0 rfl
  obtain rfl:ys=[]:=Ze hm;have hr:=WI w o.type v xs base c hown QQ;unfold Oper.wp execOp;simp only[ho,resolve,invoke,builtin,Sem.run_bind,Sem.run_pure,Yr,List.map_toArray,List.map_cons,List.map_nil,hs,hx,hr];exact h v w QBH ⟨rfl,rfl,rfl,ZB _,fun _ _ _=>rfl⟩
 ·exact Np s x ho base v xs ys ad m c hs hx hown hy hm hl hbase fun v' w' h1 h2 _=>h v' w' h1 h2
def JT(base:Nat)(w:World)(J:Nat)(cv:Value)(p:Nat)(s:List Int)(m:Nat):Prop:=
 ∃sv,Za w J #[cv,.int .i64 (p:Int),sv] 228/\Own 3 base w sv s/\base<=J/\s.length<=400*m
def Ot(base J:Nat)(cv:Value)(p:Nat)(s:List Int)(m:Nat)(w:World)(e:Ending)(w':World):Prop:=
 e=.returned (.pointer (some ⟨J,0,none⟩))/\JT base w' J cv p s m/\Below base w w'/\w.heap.size<=w'.heap.size
theorem Own.sl0{e:TypeId}{base:Nat}{w:World}{a:Option Addr}{n c:Nat}{xs:List Int}(h:Own e base w (.slice a n c) xs):a=none->n=0:=h.sl.get.2.2.2.2
theorem uL(B:List Int)(f t:Nat)(ht:t<=B.length):(YH B f t).length<=f+t+1:=by
 unfold YH;split
 ·rw[Xy,Zp];omega
 ·split
  ·rw[JJ];omega
  ·rw[XD,Zp];omega
theorem Yf.JZ{base:Nat}{w w':World}{v:Value}{xs:List Int}(h:Yf (fun x=>x<base) w v xs)(hb:Below base w w'):Yf (fun x=>x<base) w' v xs:=
 h.keep fun q v hq hc=>by
  unfold World.cell? at hc ⊢;rw[hb.block _ hq];exact hc
structure JW (base J:Nat) (w0 w:World) (cs:Array Value) (sv:Value) (s:List Int):Prop where
 blk:Za w J cs 228
 own:Own 3 base w sv s
 YX:Below base w0 w
theorem JW.set{base J:Nat}{w0 w:World}{cs:Array Value}{sv:Value}{s:List Int}(h:JW base J w0 w cs sv s)(hb:base<=J)(i:Nat)(v:Value):JW base J w0 (w.setCell ⟨J,i,none⟩ v) (cs.setIfInBounds i v) sv s:=
 ⟨h.blk.set i v,h.own.other (a:=⟨J,i,none⟩) (h.own.Xa h.blk QZ) v,h.YX.setCell (p:=⟨J,i,none⟩) hb v⟩
theorem JW.fin{base J:Nat}{w0 w:World}{cs:Array Value}{cv sv:Value}{p:Nat}{s:List Int}{m:Nat}(h:JW base J w0 w cs sv s)(hc:cs=#[cv,.int .i64 (p:Int),sv])(hb:base<=J)(hl:s.length<=400*m):Ot base J cv p s m w0 (.returned (.pointer (some ⟨J,0,none⟩))) w:=by
 subst hc;exact⟨rfl,⟨sv,h.blk,h.own,hb,hl⟩,h.YX,h.YX.size⟩
theorem JU(base J m:Nat)(a:Option Addr)(n c p k:Nat)(B s:List Int)(w:World)(hs:Yf (fun x=>x<base) w (.slice a n c) B)(h:JT base w J (.slice a n c) p s m)(hp:p<=n)(hk:k<=n)(hn:n<=120)(hm:m<=100):
  Calls Tryz.prog 151 #[.pointer (some ⟨J,0,none⟩),.int .i64 (k:Int)] w (Ot base J (.slice a n c) k (s++YH B p k) (m+1) w):=by
 obtain⟨sv,hB,hown,RG,hl⟩:=h;obtain⟨sa,sn,sc,rfl⟩:=hown.form;have hJ:=hB.lt;have hwl:=uL B p k (by rw[hs.get.1];exact hk);have hsl:=hs.sl;obtain⟨c0,c1,c2,g0,g1,g2⟩:=hB.three;go_enter Tryz.func151,Tryz.ntmps151
 go_wp2
 go_region_law (first|(go_simp;go_at_call 206;refine(Pn a n c p k B _ hsl.drew hp hk hn).mono ?_;rintro e w8 ⟨v8,rfl,o8,XF⟩;obtain⟨a8,n8,c8,rfl⟩:=o8.form;have UW:=hB.drew.below XF hB.drew.lt;obtain⟨k0,k1,k2,l0,l1,l2⟩:=UW.three;have Sr:=hown.drew.kept XF)|(refine CE QAQ _ _ rfl base (.slice sa sn sc) s _ _ _ _ rfl rfl Sr o8.get.2.1 o8.get.1 o8.sl0 (by rw[<-o8.get.1];omega) (Zh (Zh RG (Xr hJ)) XF.size) ?_;intro v9 w9 o9 Xe;obtain⟨a9,n9,c9,rfl⟩:=o9.form;have U0:=UW.grown Xe (Sr.Xa UW QZ);obtain⟨m0,m1,m2,q0,q1,q2⟩:=U0.three))
 all_goals
  have tK:JW base J w w9 _ _ _:=⟨U0,o9,((ZH base w).drew.trans (XF.mono (Zh RG (Xr hJ)))).grown Xe (Zh (Zh RG (Xr hJ)) XF.size) Sr.row⟩;have HW9:=Zy tK;clear tK U0 o9 XF UW Sr hB hown Xe hs hsl;go_wp2;go_ret;exact((HW9.out.set RG 2 _).set RG 1 _).fin QJ RG (by rw[Zd];omega)
theorem Kh(base J m:Nat)(a:Option Addr)(n c p f t:Nat)(B s:List Int)(w:World)(hs:Yf (fun x=>x<base) w (.slice a n c) B)(h:JT base w J (.slice a n c) p s m)(hp:p<=n)(hf:f<=t)(ht:t<=n)(hn:n<=120)(hm:m<=90):
  Calls Tryz.prog 152 #[.pointer (some ⟨J,0,none⟩),.int .i64 (f:Int),.int .i64 (t:Int)] w (Ot base J (.slice a n c) t ((s++YH B p f)++YH B f t) (m+2) w):=by
 have hto:=JU base J m a n c p f B s w hs h hp QQ hn QQ;have hwl:=uL B p f (by rw[hs.get.1];omega);obtain⟨s1,s2,s3,s4,s5⟩:=hs.get;go_enter Tryz.func152,Tryz.ntmps152
 go_wp2_with fail
 refine hto.mono ?_;rintro e w2 ⟨rfl,⟨sv,hB,hown,RG,hl2⟩,hb2,hz2⟩;obtain⟨sa,sn,sc,rfl⟩:=hown.form;have hJ:=hB.lt;obtain⟨c0,c1,c2,g0,g1,g2⟩:=hB.three;have hs2:=hs.JZ hb2;have hI:=hs2.get.2.2.2.1.Ai (c:=c) f t (by rw[s1];omega) hf (by rw[s1];omega);have hcr:=zy a n c f t hf QQ;have hlen:((B.take t).drop f).length=t-f:=by rw[Xy,Zp,s1];omega
 have hw:YH B f t=(B.take t).drop f:=by unfold YH;rw[if_pos hf]
 have HL:=Zy hlen;have HS:=Zy s1;have hsl:(s++YH B p f).length<=100000:=QQ;clear hlen s1 hto h;go_wp2
 go_region_law (refine CE QAQ _ _ rfl base (.slice sa sn sc) (s++YH B p f) ((B.take t).drop f) _ _ _ rfl rfl hown.drew hI.drew HL.out (fun e=>by have:=s5 (VQ e);omega) QQ QY ?_;intro v9 w9 o9 Xe;obtain⟨a9,n9,c9,rfl⟩:=o9.form;have U0:=hB.drew.grown Xe (hown.Xa hB QZ);obtain⟨m0,m1,m2,q0,q1,q2⟩:=U0.three)
 all_goals
  have tK:JW base J w w9 _ _ _:=⟨U0,o9,hb2.drew.grown Xe QY hown.row⟩;have HW9:=Zy tK;have qO:w.heap.size<=w.heap.size:=ZB _;clear tK U0 o9 hB hown Xe hs hs2 hI;go_wp2;go_ret;rw[hw];exact((HW9.out.set RG 2 _).set RG 1 _).fin QJ RG (by rw[Zd,HL.out];omega)
theorem KV(base J m:Nat)(a:Option Addr)(n c p k:Nat)(B s:List Int)(w:World)(hs:Yf (fun x=>x<base) w (.slice a n c) B)(h:JT base w J (.slice a n c) p s m)(hp:p<=n)(hk:k<=n)(hn:n<=120)(hm:m<=90):
  Calls Tryz.prog 153 #[.pointer (some ⟨J,0,none⟩),.int .i64 (k:Int)] w (Ot base J (.slice a n c) k ((s++YH B p k)++[11]) (m+2) w):=by
 have hto:=JU base J m a n c p k B s w hs h hp hk hn QQ;have hwl:=uL B p k (by rw[hs.get.1];omega);go_enter Tryz.func153,Tryz.ntmps153
 go_wp2_with fail
 refine hto.mono ?_;rintro e w2 ⟨rfl,⟨sv,hB,hown,RG,hl2⟩,hb2,hz2⟩;obtain⟨sa,sn,sc,rfl⟩:=hown.form;have hJ:=hB.lt;obtain⟨c0,c1,c2,g0,g1,g2⟩:=hB.three;have hsl:(s++YH B p k).length<=100000:=QQ;clear hto h hs;have hBa:=hB.alloc (.cells #[.int .i64 11] 3);go_wp2_with (at_builtin;refine SQ rfl _ _ rfl base _ (s++YH B p k) [11] _ 1 1 rfl rfl (hown.alloc _) (OG _ _) rfl QQ QY ?_;intro v9 w9 o9 Xe _;obtain⟨a9,n9,c9,rfl⟩:=o9.form;have U0:=hBa.grown Xe (hown.Xa hB QZ);obtain⟨m0,m1,m2,q0,q1,q2⟩:=U0.three)
 have tK:JW base J w w9 _ _ _:=⟨U0,o9,(hb2.alloc QQ _).grown Xe QY hown.row⟩;have HW9:=Zy tK;clear tK U0 o9 hB hown Xe hBa;go_wp2;go_ret;exact(HW9.out.set RG 2 _).fin QJ RG (by rw[Zd,List.length_singleton];omega)
theorem KQ(B2 B3:Nat)(a:Option Addr)(n c p:Nat)(w:World)(c3:w.cell? ⟨B3,0,none⟩=some (.slice a n c))(c2:w.cell? ⟨B2,1,none⟩=some (.int .i64 (p:Int))):
  Calls Tryz.prog 149 #[.pointer (some ⟨B3,0,none⟩),.pointer (some ⟨B2,0,none⟩)] w (fun e w'=>∃J,e=.returned (.pointer (some ⟨J,0,none⟩))/\w.heap.size<=J/\JT J w' J (.slice a n c) p [] 0/\Below w.heap.size w w'):=by
 go_enter Tryz.func149,Tryz.ntmps149
 go_wp2;go_ret;exact⟨_,rfl,ZB _,⟨_,Za.new _ _ _,Own.nil _ _ _,ZB _,QJ⟩,ZT _ _⟩
def Ud(c:Int):Bool:=decide (c<32) || c==127
def J9(xs:List Int)(p:Int):Int:=
 if xs.length<2\/120<xs.length\/p<0\/(xs.length:Int)<p then 1 else if xs.any Ud then 4 else 0
theorem oN(c:Int)(w:World):
  Calls Tryz.prog 121 #[.int .i64 c] w fun e w'=>e=.returned (.bool (Ud c))/\w=w':=by
 go_enter Tryz.func121,Tryz.ntmps121
 go_wp2
 all_goals
  go_ret;exact⟨Yu (by unfold Ud;simp_all),rfl⟩
def uC(xs:List Int)(r:Int):Prop:=(∃k,k<xs.length/\Ud (ix xs k)=true/\r=(k:Int))\/((∀k,k<xs.length->Ud (ix xs k)=false)/\r= -1)
theorem uC.any{xs:List Int}{r:Int}(h:uC xs r):decide (0<=r)=xs.any Ud:=by
 rcases h with⟨k,h1,h2,rfl⟩|⟨h1,rfl⟩
 ·have:xs.any Ud=true:=List.any_eq_true.2 ⟨_,Md h1,h2⟩
  rw[this];simp
 ·have:xs.any Ud=false:=by
   rw[List.any_eq_false];intro x hx;obtain⟨k,hk,rfl⟩:=List.getElem_of_mem hx;have:=h1 k hk;rw[Yw hk]at this;simp[this]
  rw[this];rfl
theorem Lt(a:Option Addr)(n c:Nat)(xs:List Int)(w:World)(ha:Ints w a xs)(hn:xs.length=n)(h2:n<=9223372036854775807):
  Calls Tryz.prog 53 #[.slice a n c,.func (.func 121) #[] #[]] w fun e w'=>∃r,e=.returned (.int .i64 r)/\uC xs r/\w=w':=by
 have HN:=Zy hn;clear hn;go_enter Tryz.func53,Tryz.ntmps53
 go_wp2
 go_loopw [8] (fun i wr=>∃k:Nat,i=.int .i64 (k:Int)/\k<=n/\(∀j,j<k->Ud (ix xs j)=false)/\w=wr) (fun i _=>n-(intOf i).toNat)
 case atStart=>exact⟨0,rfl,QQ,fun j hj=>QQ,rfl⟩
 case round=>
  obtain⟨k,rfl,hk,hno,rfl⟩:=hrel;have Kj:=Zy hno;clear hno;by_cases hlt:k<n
  ·obtain⟨b1,o1,rfl,hc0⟩:=ha.at (k:=k) Qx
   have ck:=hc0 k Qx;have i1:(k:Int)<(n:Int):=QQ;clear hc0;go_wp2_with fail
   refine(oN _ _).mono ?_;rintro e w' ⟨rfl,rfl⟩;rcases hb:Ud (ix xs k)with _|_
   ·have HB:=Zy hb
    clear hb;go_wp2;go_roundw
    case rel=>
     refine⟨k+1,Qk,QQ,?_,QAX⟩;intro j hj;rcases XK.1 hj with h|rfl
     ·exact Kj.out j h
     ·exact HB.out
    case measure=>simp[intOf];omega
   ·go_wp2
    go_ret;exact⟨_,rfl,.inl ⟨k,Qx,hb,rfl⟩,rfl⟩
  ·have HR:=Zy (show uC xs (-1)from Or.inr (And.intro (fun j hj=>Kj.out j (by rw[HN.out]at hj;omega)) rfl))
   go_wp2;go_ret;exact⟨_,rfl,HR.out,rfl⟩
theorem BA(a:Option Addr)(n c:Nat)(xs:List Int)(w:World)(ha:Ints w a xs)(hn:xs.length=n)(h2:n<=9223372036854775807):
  Calls Tryz.prog 21 #[.slice a n c,.func (.func 121) #[] #[]] w fun e w'=>e=.returned (.bool (xs.any Ud))/\w=w':=by
 have HN:=Zy hn;clear hn;go_enter Tryz.func21,Tryz.ntmps21
 go_wp2_with fail
 refine(Lt a n c xs w ha HN.out h2).mono ?_;rintro e w' ⟨r,rfl,hr,rfl⟩;go_wp2;go_ret;exact⟨Yu hr.any,rfl⟩
theorem Mk{xs:List Int}{p:Int}(h:xs.length<2\/120<xs.length\/p<0\/(xs.length:Int)<p):J9 xs p=1:=if_pos h
theorem PR{xs:List Int}{p:Int}(h:¬(xs.length<2\/120<xs.length\/p<0\/(xs.length:Int)<p)):J9 xs p=if xs.any Ud then 4 else 0:=if_neg h
theorem ze(a:Option Addr)(n c:Nat)(xs:List Int)(p:Int)(w:World)(ha:Ints w a xs)(hn:xs.length=n)(h2:n<=9223372036854775807):
  Calls Tryz.prog 64 #[.agg #[.slice a n c,.int .i64 p]] w fun e w'=>e=.returned (.int .i64 (J9 xs p))/\Below w.heap.size w w':=by
 have HN:=Zy hn;have hb1:=ZT w (.cells #[.slice a n c,.int .i64 p] 39);by_cases hok:n<2\/120<n\/p<0\/(n:Int)<p
 ·have HE:=Zy (Mk (xs:=xs) (p:=p) (by rw[hn];exact hok))
  clear hn;go_enter Tryz.func64,Tryz.ntmps64
  by_cases e1:n<2
  ·go_wp2
   exact QFG
  ·by_cases e2:120<n
   ·go_wp2
    exact QFG
   ·by_cases e3:p<0
    ·go_wp2
     exact QFG
    ·have e4:(n:Int)<p:=by omega
     go_wp2;exact QFG
 ·have HE:=Zy (PR (xs:=xs) (p:=p) (by rw[hn];exact hok))
  have e1:2<=n:=QQ;have e2:n<=120:=QQ;have e3:0<=p:=QQ;have e4:p<=(n:Int):=QQ;clear hn hok;go_enter Tryz.func64,Tryz.ntmps64
  go_wp2_with fail
  refine(BA a n c xs _ (ha.below hb1) HN.out h2).mono ?_;rintro e w' ⟨rfl,rfl⟩;rcases hb:xs.any Ud with _|_
  ·have HF:=Zy (show J9 xs p=0 by rw[HE.out,hb];rfl)
   clear hb;go_wp2;go_ret;exact⟨XA HF.out.symm,hb1⟩
  ·have HF:=Zy (show J9 xs p=4 by rw[HE.out,hb];rfl)
   clear hb;go_wp2;go_ret;exact⟨XA HF.out.symm,hb1⟩
end Go.Proofs.YtmdcencmiopmmaaGreat
