/- LiftTopBounds: joined, no condition of its own. -/
import Derived.Test.YtmdcencmiopmmaaGreatTbJoinT
import Derived.Test.YtmdcencmiopmmaaGreatTbJoinJ3
import Derived.Test.YtmdcencmiopmmaaGreatTbJoinJ9
set_option linter.unusedVariables false
set_option linter.unusedSimpArgs false
set_option maxRecDepth 100000
set_option maxHeartbeats 12000000
namespace Go.Proofs.YtmdcencmiopmmaaGreat
open Go.RowKit
theorem I6.one{base:Nat}{w:World}{vs:List Value}{X:List (List Int)}(h:I6 base w vs X):∀v∈vs,v.oneCell'=true:=by
 intro v hv;obtain⟨i,hi,rfl⟩:=Ap hv;obtain⟨a,n,c,hv⟩:=h.slv i hi;rw[hv];rfl
theorem xu(w:World):(w.alloc (.cells (ZT Q9) 36)).there w.heap.size 0 27:=by
 intro j hj;have hB:=ZY.new w Q9 36;rw[Zu];exact⟨by rw[hB.cell (by rw[XA];exact hj)];rfl,hB.free j⟩
theorem D9{w w':World}{B n:Nat}(h:w.there B 0 n)(hB:B<w.heap.size)(hb:Below w.heap.size w w'):w'.there B 0 n:=by
 intro j hj;obtain⟨h1,h2⟩:=h j hj;rw[Zu]at *;refine⟨?_,?_⟩
 ·rw[hb.cell hB];exact h1
 ·rw[hb.frozen hB];exact h2
theorem Lm{P:Nat}{a:Option Addr}{n c:Nat}{rg:Int}{vs:List Value}{w w1 w2:World}(hP:P<w.heap.size)(h:(w1.cell? ⟨P,0,none⟩=some (.slice a n c)/\w1.cell? ⟨P,30,none⟩=some (.int .i64 rg)/\w1.rangeAt P 2 vs/\Below w.heap.size w w1))(hb:Below w.heap.size w1 w2):(w2.cell? ⟨P,0,none⟩=some (.slice a n c)/\w2.cell? ⟨P,30,none⟩=some (.int .i64 rg)/\w2.rangeAt P 2 vs/\Below w.heap.size w w2):=
 ⟨by rw[hb.cell hP];exact h.1,by rw[hb.cell hP];exact h.2.1,fun j v hv=>by rw[hb.cell hP];exact h.2.2.1 j v hv,h.2.2.2.trans hb⟩
theorem SA{P:Nat}{a:Option Addr}{n c:Nat}{rg:Int}{vs:List Value}{w w1 w2:World}(hP:P<w.heap.size)(h:(w1.cell? ⟨P,0,none⟩=some (.slice a n c)/\w1.cell? ⟨P,30,none⟩=some (.int .i64 rg)/\w1.rangeAt P 2 vs/\Below w.heap.size w w1))(hb:Below w1.heap.size w1 w2):(w2.cell? ⟨P,0,none⟩=some (.slice a n c)/\w2.cell? ⟨P,30,none⟩=some (.int .i64 rg)/\w2.rangeAt P 2 vs/\Below w.heap.size w w2):=Lm hP h (hb.mono h.2.2.2.size)
theorem pV{P:Nat}{a:Option Addr}{n c:Nat}{rg:Int}{vs:List Value}{w w1:World}(hP:P<w.heap.size)(h:(w1.cell? ⟨P,0,none⟩=some (.slice a n c)/\w1.cell? ⟨P,30,none⟩=some (.int .i64 rg)/\w1.rangeAt P 2 vs/\Below w.heap.size w w1))(o:Obj):((w1.alloc o).cell? ⟨P,0,none⟩=some (.slice a n c)/\(w1.alloc o).cell? ⟨P,30,none⟩=some (.int .i64 rg)/\(w1.alloc o).rangeAt P 2 vs/\Below w.heap.size w (w1.alloc o)):=SA hP h (QC _ _)
theorem pU{P:Nat}{a:Option Addr}{n c:Nat}{rg:Int}{vs:List Value}{w w1:World}(hP:P<w.heap.size)(h:(w1.cell? ⟨P,0,none⟩=some (.slice a n c)/\w1.cell? ⟨P,30,none⟩=some (.int .i64 rg)/\w1.rangeAt P 2 vs/\Below w.heap.size w w1))(k:Nat)(cs:List Value)(hB:w.heap.size<=k):((w1.setCells k 0 cs).cell? ⟨P,0,none⟩=some (.slice a n c)/\(w1.setCells k 0 cs).cell? ⟨P,30,none⟩=some (.int .i64 rg)/\(w1.setCells k 0 cs).rangeAt P 2 vs/\Below w.heap.size w (w1.setCells k 0 cs)):=Lm hP h (below_setCells hB cs 0 (Qx _ _))
theorem UK{us vs:List Value}(h:us.length=vs.length):EP us 0 vs=vs:=by
 apply List.ext_getElem (by rw[yD,h]);intro i h1 h2;have:=V9 (us:=us) (o:=0) (vs:=vs) (j:=i) (by omega) h2;rw[Zu]at this;simpa[vx,QN,h1,h2]using this
theorem SE{P:Nat}{w w8:World}{qy:List Value}{YY:List (List Int)}(hP:P<w.heap.size)(hR:I6 w.heap.size w8 qy YY):
  ZY ((w8.alloc (.cells (ZT Q9) 36)).setCells w8.heap.size 0 qy) w8.heap.size qy 36/\I6 (P+1) ((w8.alloc (.cells (ZT Q9) 36)).setCells w8.heap.size 0 qy) qy YY:=by
 have hB:=(ZY.new w8 Q9 36).setCells 0 qy;rw[UK (by rw[XA,hR.lv])]at hB;have hb:Below w8.heap.size w8 ((w8.alloc (.cells (ZT Q9) 36)).setCells w8.heap.size 0 qy):=(Xg _ w8.heap.size 0 qy).XW (QU _) (QC _ _);exact⟨hB,⟨hR.lv,hR.lx,fun i hi=>((hR.ow i hi).kept hb).mono (Nat.succ_le_of_lt hP)⟩⟩
theorem SC{P:Nat}{w w8:World}{qy:List Value}{YY:List (List Int)}(hP:P<w.heap.size)(ZU:Below (w.alloc (.cells (ZT Q9) 36)).heap.size (w.alloc (.cells (ZT Q9) 36)).drew w8)(hR:I6 (w.alloc (.cells (ZT Q9) 36)).heap.size w8 qy YY):
  ZY (w8.setCells w.heap.size 0 qy) w.heap.size qy 36/\I6 (P+1) (w8.setCells w.heap.size 0 qy) qy YY:=by
 have h0:=(ZY.new w Q9 36);have h1:ZY w8 w.heap.size Q9 36:=h0.below (w:=(w.alloc (.cells (ZT Q9) 36)).drew) ZU (by show _<(w.alloc _).heap.size;rw[QJ];exact Qq _);have hB:=h1.setCells 0 qy;rw[UK (by rw[XA,hR.lv])]at hB;have hL:=Xg w8 w.heap.size 0 qy;exact⟨hB,⟨hR.lv,hR.lx,fun i hi=>((hR.ow i hi).left hL (by rw[QJ];exact Qq _)).mono (by rw[QJ];omega)⟩⟩
theorem dX{ops:Array Oper}{rest:List Oper}{op:Oper}{a:Act}{w:World}{Q:Exit->Act->World->Prop}(hgd:op.guard=none)(x y:Operand)(ho:op.op=.store 36 x y)
  (P:Nat) (hx:a.eval x=.pointer (some ⟨P,36,none⟩)) (vs:List Value) (hy:a.eval y=.agg (ZT vs)) (us:List Value) (I:In) (s:St) (h:DI P w us I s) (hl:vs.length=27) (h1:∀v∈vs,v.oneCell'=true)
  (hk:wpList Tryz.prog ops Q rest (a.put op.dst undef) (w.setCells P 36 vs)):wpList Tryz.prog ops Q (op::rest) a w:=by
 refine wpList_store_mid hgd 36 x y ho P 36 (ZT vs) hx hy ?_ (by rw[XM,hl];exact YU) (Xd h1) hk;intro j hj;rw[XM]at hj;exact⟨by rw[h.cell (by omega)];rfl,h.free _⟩
theorem Uh(P f g:Nat)(us:List Value)(I:In)(hI:YC I)(s:St)(w:World)(h:DI P w us I s)(hfg:f<=g)(hgn:g<=I.n):
  Calls Tryz.prog 277 #[.pointer (some ⟨P,0,none⟩),.int .i64 (f:Int),.int .i64 (g:Int)] w (Xc P I (Y0 I.X s.cm.b ((I.t.take g).drop f)) (if Y0 I.X s.cm.b ((I.t.take g).drop f)=0 then {s with Y:=YF I.X s.cm.b ((I.t.take g).drop f)}else s) w):=by
 have hT:=h.sl hI;have hR:=h.rg hI;have HS:=QQ hI.small;have HI:=QQ hI;have HN:=QQ hI.len;have hcap:=hI.cap;have htop:=hI.top;have HA0:=QQ hI.none;have c0:=h.c0;have Jl:=h.Jl;have rr:=h.rr hI;have HX:=QQ h;have VF:=h.lt;have hlv:=hI.O4.lv;clear h hI;obtain⟨w0,a,n,c,t,k,vs,X⟩:=I;obtain⟨cm,O,p,Y,fk,fa,md,es⟩:=s;obtain⟨ct,rg,op,vb,ar⟩:=cm;dsimp only at *;obtain⟨y,hy⟩:∃y,(t.take g).drop f=y:=⟨_,rfl⟩;rw[hy];have hcr:=Wq a n c f g hfg (by omega);have HL:=QQ (show y.length=g-f by rw[<-hy,Q7,QT,HN.out];omega);have hcut:=hT.uQ (c:=c) f g (by rw[HN.out];exact hcap) hfg (by rw[HN.out];exact hgn);rw[hy]at hcut;have nK:=QQ (show VD a c f=none->g-f=0 from fun hz=>by have:=HA0.out (KO hz);omega);obtain⟨aa,Mq⟩:∃aa,VD a c f=aa:=⟨_,rfl⟩;rw[Mq]at hcr hcut nK;obtain⟨E,hE⟩:∃E,Y0 X rg y=E:=⟨_,rfl⟩;obtain⟨YY,hYY⟩:∃YY,YF X rg y=YY:=⟨_,rfl⟩;rw[hE,hYY];have PUT:∀w1,Below w.heap.size w w1->Calls Tryz.prog 292 #[.agg vs.toArray,.int .i64 rg,.slice aa (g-f) (c-f)] w1 (Um YY E w1):=fun w1 hb=>by
  rw[<-hE,<-hYY];exact RB vs X rg aa (g-f) (c-f) y w1 (hR.below hb) HS.out (hcut.below hb) HL.out nK.out (by omega)
 have HP:=QQ PUT;have hu:=Yb;have hz:(Tryz.prog.info? 36).map (·.size)=some vs.length:=by rw[hlv];exact YU
 have hal:=Jm;clear hT hR hy hcut Mq PUT hE hYY hgn;go_enter Tryz.func277,Tryz.ntmps277
 go_upto_region 1 with fail
 go_cut [7,8] (fun v e wx=>∃B qy,v=.pointer (some ⟨B,0,none⟩)/\e=.int .i64 E/\w.heap.size<=B/\ZY wx B qy 36/\I6 (P+1) wx qy YY/\Below w.heap.size w wx)
 case first=>
  go_region_held3 (fun w'=>w'.cell? ⟨P,0,none⟩=some (.slice a n c)/\w'.cell? ⟨P,30,none⟩=some (.int .i64 rg)/\w'.rangeAt P 2 vs/\Below w.heap.size w w') (first|exact⟨c0,Jl,rr,(Qx _ _).drew⟩|assumption|exact SA VF ‹_› ‹_› | exact pV VF ‹_› _|exact pU VF ‹_› _ _ ‹_›)
   (first|(go_at_call 292;refine(HP.out w.drew (Qx _ _).drew).mono ?_;rintro e w8 ⟨qy,rfl,K7,ZU⟩;have yM:(Tryz.prog.info? 36).map (·.size)=some qy.length:=YU.trans (XQ some K7.lv.symm);have Vf:=K7.lv;have O9:=K7.one;have ht8:=xu w8;have hq8:w.heap.size<=w8.heap.size:=ZU.size)|(go_at_call 292;refine(HP.out (w.alloc (.cells #[.slice none 0 0,.slice none 0 0,.slice none 0 0,.slice none 0 0,.slice none 0 0,.slice none 0 0,.slice none 0 0,.slice none 0 0,.slice none 0 0,.slice none 0 0,.slice none 0 0,.slice none 0 0,.slice none 0 0,.slice none 0 0,.slice none 0 0,.slice none 0 0,.slice none 0 0,.slice none 0 0,.slice none 0 0,.slice none 0 0,.slice none 0 0,.slice none 0 0,.slice none 0 0,.slice none 0 0,.slice none 0 0,.slice none 0 0,.slice none 0 0] 36)).drew (QC w _).drew).mono ?_;rintro e w8 ⟨qy,rfl,K7,ZU⟩;have yM:(Tryz.prog.info? 36).map (·.size)=some qy.length:=YU.trans (XQ some K7.lv.symm);have Vf:=K7.lv;have O9:=K7.one;have ht8:w8.there w.heap.size 0 27:=D9 (w:=(w.alloc (.cells #[.slice none 0 0,.slice none 0 0,.slice none 0 0,.slice none 0 0,.slice none 0 0,.slice none 0 0,.slice none 0 0,.slice none 0 0,.slice none 0 0,.slice none 0 0,.slice none 0 0,.slice none 0 0,.slice none 0 0,.slice none 0 0,.slice none 0 0,.slice none 0 0,.slice none 0 0,.slice none 0 0,.slice none 0 0,.slice none 0 0,.slice none 0 0,.slice none 0 0,.slice none 0 0,.slice none 0 0,.slice none 0 0,.slice none 0 0,.slice none 0 0] 36)).drew) (xu w) (by show _<(w.alloc _).heap.size;rw[QJ];exact Qq _) ZU;have hq8:w.heap.size<=w.heap.size:=QU _))
  all_goals
   go_wp2;go_meet;rename_i hHeld
   first
    | exact⟨_,_,rfl,rfl,hq8,(SE VF K7).1,(SE VF K7).2,hHeld.2.2.2⟩
    | exact⟨_,_,rfl,rfl,hq8,(SC VF ZU K7).1,(SC VF ZU K7).2,hHeld.2.2.2⟩
 obtain⟨B,qy,rfl,rfl,hq8,JR,K7,ZU⟩:=hcut;have h8:=HX.out.to ZU;have Vf:=K7.lv;have O9:=K7.one;clear HP nK HL hcr hu hz hal c0 Jl rr;by_cases h0:E=0
 ·subst h0
  have h9:=h8.dJ qy YY K7;have H9:=QQ h9;have hL:=Xg wc P 36 qy;have HL9:=QQ hL;clear h9 hL;go_wp2_with (first|(refine Jf rfl _ rfl B rfl qy _ JR Vf ?_)|(refine dX rfl _ _ rfl P rfl qy rfl _ _ _ h8 Vf O9 ?_))
  go_ret;exact⟨rfl,⟨_,H9.out⟩,(Z6.of ZU).trans (Z6.setCells qy)⟩
 ·have n0:(E==0)=false:=by simpa using h0
  have H8:=QQ h8;have HNE:=QQ h0;clear h8 h0;go_wp2;go_ret;exact⟨rfl,⟨_,H8.out⟩,Z6.of ZU⟩
structure I5 (l:List Int) (big:Bool) (k f t:Nat):Prop where
 lo:f<=k
 hi:k<t
 len:t<=l.length
 same:∀j,f<=j->j<t->Za (ix l j) big=Za (ix l k) big
 left:f=0\/Za (ix l (f-1)) big≠Za (ix l k) big
 right:t=l.length\/Za (ix l t) big≠Za (ix l k) big
theorem I5.one{l:List Int}{big:Bool}{k f t f' t':Nat}(h:I5 l big k f t)(h':I5 l big k f' t'):f=f'/\t=t':=by
 obtain⟨a1,a2,a3,a4,a5,a6⟩:=h;obtain⟨b1,b2,b3,b4,b5,b6⟩:=h';constructor
 ·rcases ZJ f f' with h|h|h
  ·rcases b5 with rfl|b5
   ·omega
   ·exact absurd (a4 (f'-1) (by omega) (by omega)) b5
  ·exact h
  ·rcases a5 with rfl|a5
   ·omega
   ·exact absurd (b4 (f-1) (by omega) (by omega)) a5
 ·rcases ZJ t t' with h|h|h
  ·rcases a6 with rfl|a6
   ·omega
   ·exact absurd (b4 t (by omega) h) a6
  ·exact h
  ·rcases b6 with rfl|b6
   ·omega
   ·exact absurd (a4 t' (by omega) h) b6
def iK(l:List Int)(big:Bool)(k:Nat)(w:World)(e:Ending)(w':World):Prop:=
 ∃f t:Nat,e=.returned (.agg #[.int .i64 (f:Int),.int .i64 (t:Int)])/\I5 l big k f t/\Below w.heap.size w w'
theorem U2(a:Option Addr)(n c:Nat)(l:List Int)(big:Bool)(k:Nat)(w:World)(ha:Ints w a l)(hn:l.length=n)(h2:n<=4096)(hk:k<n):
  Calls Tryz.prog 294 #[.slice a n c,.int .i64 (k:Int),.bool big] w (iK l big k w):=by
 have HN:=QQ hn;clear hn;obtain⟨b1,o1,rfl,hc0⟩:=ha.at (k:=k) (by rw[HN.out];exact hk);have HC:=QQ (show∀i,i<n->w.cell? ⟨b1,o1+i,none⟩=some (.int .i64 (ix l i))from fun i hi=>hc0 i (by rw[HN.out];exact hi));clear hc0;have hb:=QS w (.cells #[.int .i64 0,.int .i64 0] 349) (.cells #[.int .i64 (k:Int),.int .i64 (k:Int)] 349);have hA:=(QD.new w #[.int .i64 0,.int .i64 0] 349).alloc (.cells #[.int .i64 (k:Int),.int .i64 (k:Int)] 349);have hS:=QD.new (w.alloc (.cells #[.int .i64 0,.int .i64 0] 349)) #[.int .i64 (k:Int),.int .i64 (k:Int)] 349;rw[QJ]at hS;have ck:=Qk hb _ _ (HC.out k hk);have ik:(k:Int)<(n:Int):=by omega
 go_enter Tryz.func294,Tryz.ntmps294
 go_wp2_with fail
 refine(X5 (ix l k) big _).mono ?_;rintro e w' ⟨rfl,hww⟩;rw[<-hww];clear hww;generalize(w.alloc (.cells #[.int .i64 0,.int .i64 0] 349)).alloc (.cells #[.int .i64 (k:Int),.int .i64 (k:Int)] 349)=w2 at *;obtain⟨kd,hkd⟩:∃kd,Za (ix l k) big=kd:=⟨_,rfl⟩;rw[hkd];have HKD:=QQ hkd;clear hkd ck;go_upto_block 0 with fail
 go_cut [] (fun wx=>∃f:Nat,f<=k/\(∀j,f<=j->j<=k->Za (ix l j) big=kd)/\(f=0\/Za (ix l (f-1)) big≠kd)/\QD wx w.heap.size #[.int .i64 0,.int .i64 0] 349/\QD wx (w.heap.size+1) #[.int .i64 (f:Int),.int .i64 (k:Int)] 349/\Below w.heap.size w wx)
 case first=>
  go_wp2
  go_loopg [] k (fun g wr=>∃f:Nat,f<=g/\f<=k/\Aside ((∀j,f<=j->j<=k->Za (ix l j) big=kd)/\QD wr w.heap.size #[.int .i64 0,.int .i64 0] 349/\QD wr (w.heap.size+1) #[.int .i64 (f:Int),.int .i64 (k:Int)] 349/\Below w.heap.size w wr))
  case atStart=>
   refine⟨k,by omega,by omega,?_⟩;show _/\_;refine⟨fun j h1 h2=>?_,hA,hS,hb⟩;obtain rfl:j=k:=by omega
   exact HKD.out
  case round=>
   obtain⟨f,hfg,Ow,hrest⟩:=hrel;obtain⟨hsame,hAr,hSr,hbr⟩:=show _/\_ from hrest;clear hrest hA hS hb;have HSA:=QQ hsame;clear hsame;obtain⟨c0,c1,e0,e1⟩:=hSr.two;by_cases hf0:f=0
   ·subst hf0
    go_wp2;go_meet;exact⟨0,by omega,HSA.out,.inl rfl,hAr,hSr,hbr⟩
   ·have cj:=HC.out (f-1) (by omega)
    rw[<-hbr.cell (Zv cj)]at cj;have i1:(0:Int)<(f:Int):=by omega
    have i2:((f:Int)-1).toNat=f-1:=by omega
    have i3:(0:Int)<=(f:Int)-1:=by omega
    have i4:(f:Int)-1<(n:Int):=by omega
    go_wp2_with fail
    refine(X5 (ix l (f-1)) big _).mono ?_;rintro e w' ⟨rfl,rfl⟩;by_cases hsm:Za (ix l (f-1)) big=kd
    ·have Fs:=QQ hsm
     rw[hsm];clear hsm;go_wp2
     go_roundg (f-1)
     case measure=>omega
     case rel=>
      refine⟨f-1,by omega,by omega,?_⟩;show _/\_;refine⟨fun j h1 h2=>?_,hAr.other (by show w.heap.size≠w.heap.size+1;omega) _,?_,hbr.setCell (p:=⟨w.heap.size+1,0,none⟩) (QK _) _⟩
      ·by_cases e:j=f-1
       ·rw[e];exact Fs.out
       ·exact HSA.out j (by omega) h2
      ·rw[show((f-1:Nat):Int)=(f:Int)-1 from by omega];exact hSr.set 0 (.int .i64 ((f:Int)-1))
    ·have b1':(Za (ix l (f-1)) big==kd)=false:=by simpa using hsm
     have Fs:=QQ hsm;clear hsm;go_wp2;go_meet;exact⟨f,Ow,HSA.out,.inr Fs.out,hAr,hSr,hbr⟩
 clear hA hS hb;obtain⟨f,Ow,hsame,hleft,hA,hS,hb⟩:=hcut;have HSA:=QQ hsame;have Ol:=QQ hleft;clear hsame hleft;go_wp2
 go_loopg [] (n-k) (fun g wr=>∃t:Nat,n-t<=g/\k<=t/\t<=n/\Aside ((∀j,f<=j->j<t->Za (ix l j) big=kd)/\QD wr w.heap.size #[.int .i64 0,.int .i64 0] 349/\QD wr (w.heap.size+1) #[.int .i64 (f:Int),.int .i64 (t:Int)] 349/\Below w.heap.size w wr))
 case atStart=>
  refine⟨k,by omega,by omega,by omega,?_⟩;show _/\_;exact⟨fun j h1 h2=>HSA.out j h1 (by omega),hA,hS,hb⟩
 case round=>
  clear hA hS hb;obtain⟨t,htg,hkt,htn,hrest⟩:=hrel;obtain⟨hsame,hAr,hSr,hbr⟩:=show _/\_ from hrest;clear hrest;have HST:=QQ hsame;clear hsame;obtain⟨c0,c1,e0,e1⟩:=hSr.two;obtain⟨d0,d1,f0,f1⟩:=hAr.two;by_cases hlt:t<n
  ·have cj:=HC.out t hlt
   rw[<-hbr.cell (Zv cj)]at cj;have i1:(t:Int)<(n:Int):=by omega
   go_wp2_with fail
   refine(X5 (ix l t) big _).mono ?_;rintro e w' ⟨rfl,rfl⟩;by_cases hsm:Za (ix l t) big=kd
   ·have Fs:=QQ hsm
    rw[hsm];clear hsm;go_wp2
    go_roundg (n-(t+1))
    case measure=>omega
    case rel=>
     refine⟨t+1,by omega,by omega,by omega,?_⟩;show _/\_;refine⟨fun j h1 h2=>?_,hAr.other (by show w.heap.size≠w.heap.size+1;omega) _,hSr.set 1 (.int .i64 ((t+1:Nat):Int)),hbr.setCell (p:=⟨w.heap.size+1,1,none⟩) (QK _) _⟩;by_cases e:j=t
     ·rw[e];exact Fs.out
     ·exact HST.out j h1 (by omega)
   ·have b1':(Za (ix l t) big==kd)=false:=by simpa using hsm
    have Fs:=QQ hsm;have QKS:k<t:=by
     rcases Qi k t with h|h
     ·exact h
     ·obtain rfl:t=k:=by omega
      exact absurd HKD.out hsm
    clear hsm;go_wp2;obtain⟨y0,y1,-,-⟩:=QD.two ((hAr.set 0 (.int .i64 (f:Int))).set 1 (.int .i64 (t:Int)));refine QV (v:=.agg #[.int .i64 (f:Int),.int .i64 (t:Int)]) (by simp[results,Tryz.results294,go_sem,y0,y1]) rfl ?_;exact⟨f,t,rfl,⟨Ow,QKS,by rw[HN.out];omega,fun j h1 h2=>by rw[HKD.out];exact HST.out j h1 h2,by rw[HKD.out];exact Ol.out,.inr (by rw[HKD.out];exact Fs.out)⟩,(hbr.setCell (p:=⟨w.heap.size,0,none⟩) (QU _) _).setCell (p:=⟨w.heap.size,1,none⟩) (QU _) _⟩
  ·obtain rfl:n=t:=by omega
   go_wp2;obtain⟨y0,y1,-,-⟩:=QD.two ((hAr.set 0 (.int .i64 (f:Int))).set 1 (.int .i64 (n:Int)));refine QV (v:=.agg #[.int .i64 (f:Int),.int .i64 (n:Int)]) (by simp[results,Tryz.results294,go_sem,y0,y1]) rfl ?_;exact⟨f,n,rfl,⟨Ow,hk,by rw[HN.out];omega,fun j h1 h2=>by rw[HKD.out];exact HST.out j h1 h2,by rw[HKD.out];exact Ol.out,.inl HN.out.symm⟩,(hbr.setCell (p:=⟨w.heap.size,0,none⟩) (QU _) _).setCell (p:=⟨w.heap.size,1,none⟩) (QU _) _⟩
def Vn(l:List Int)(big around:Bool)(k f t:Nat):Prop:=
 ∃f0 t0,I5 l big k f0 t0/\
  (if around=true/\t0<l.length/\(Za (ix l k) big=0\/Za (ix l t0) big=0)then f=f0/\∃f1,I5 l big t0 f1 t
   else if around=true/\Za (ix l k) big≠0/\0<f0/\Za (ix l (f0-1)) big=0 then t=t0/\∃t1,I5 l big (f0-1) f t1
   else f=f0/\t=t0)
theorem Vn.one{l:List Int}{big around:Bool}{k f t f' t':Nat}(h:Vn l big around k f t)(h':Vn l big around k f' t'):f=f'/\t=t':=by
 obtain⟨f0,t0,h1,h2⟩:=h;obtain⟨g0,u0,h3,h4⟩:=h';obtain⟨rfl,rfl⟩:=h1.one h3;split at h2
 ·rename_i hc
  rw[if_pos hc]at h4;obtain⟨rfl,f1,h5⟩:=h2;obtain⟨rfl,f2,h6⟩:=h4;exact⟨rfl,(h5.one h6).2⟩
 ·rename_i hc
  rw[if_neg hc]at h4;split at h2
  ·rename_i hd
   rw[if_pos hd]at h4;obtain⟨rfl,f1,h5⟩:=h2;obtain⟨rfl,f2,h6⟩:=h4;exact⟨(h5.one h6).1,rfl⟩
  ·rename_i hd
   rw[if_neg hd]at h4;exact⟨h2.1.trans h4.1.symm,h2.2.trans h4.2.symm⟩
def xV(l:List Int)(big around:Bool)(k:Nat)(w:World)(e:Ending)(w':World):Prop:=
 ∃f t:Nat,e=.returned (.tuple #[.agg #[.int .i64 (f:Int),.int .i64 (t:Int)],.int .i64 0])/\Vn l big around k f t/\t<=l.length/\Below w.heap.size w w'
theorem qL(c k:Nat)(a:Option Addr)(around big:Bool)(w:World):
  Calls Tryz.prog 279 #[.slice a 0 c,.int .i64 (k:Int),.bool around,.bool big] w fun e w'=>e=.returned (.tuple #[.agg #[.int .i64 0,.int .i64 0],.int .i64 6])/\Below w.heap.size w w':=by
 have hA:=QD.new w #[.int .i64 0,.int .i64 0] 349;obtain⟨y0,y1,-,-⟩:=hA.two;have hb:=QC w (.cells #[.int .i64 0,.int .i64 0] 349);go_enter Tryz.func279,Tryz.ntmps279
 go_wp2;refine QV (v:=.tuple #[.agg #[.int .i64 0,.int .i64 0],.int .i64 6]) (by simp[results,Tryz.results279,go_sem,y0,y1]) rfl ?_;exact⟨rfl,hb⟩
theorem xS(a:Option Addr)(n c:Nat)(l:List Int)(big:Bool)(k:Nat)(w:World)(ha:Ints w a l)(hn:l.length=n)(h2:n<=4096)(hk:k<n):
  Calls Tryz.prog 279 #[.slice a n c,.int .i64 (k:Int),.bool false,.bool big] w (xV l big false k w):=by
 have HN:=QQ hn;clear hn;have hA:=QD.new w #[.int .i64 0,.int .i64 0] 349;have hb:=QC w (.cells #[.int .i64 0,.int .i64 0] 349);have hn0:¬n=0:=by omega
 have hn1:((n:Int)==0)=false:=by simp;omega
 go_enter Tryz.func279,Tryz.ntmps279
 go_wp2_with fail
 refine(U2 a n c l big k _ (ha.below hb) HN.out h2 hk).mono ?_;rintro e w2 ⟨f,t,rfl,hR,hb2⟩;have hA2:=hA.below hb2 hA.lt;have hbb:=QW hb hb.size hb2;obtain⟨d0,d1,g0,g1⟩:=hA2.two;have hz:=hA2.lt;have htl:=hR.len;have HR:=QQ hR;clear hR;go_wp2;have hA3:=QD.alloc ((hA2.set 0 (.int .i64 (f:Int))).set 1 (.int .i64 (t:Int))) (.cells #[.int .i64 (f:Int),.int .i64 (t:Int)] 349);obtain⟨y0,y1,-,-⟩:=QD.two hA3;refine QV (v:=.tuple #[.agg #[.int .i64 (f:Int),.int .i64 (t:Int)],.int .i64 0]) (by simp[results,Tryz.results279,go_sem,y0,y1]) rfl ?_;refine⟨f,t,rfl,⟨f,t,HR.out,?_⟩,htl,?_⟩
 ·rw[if_neg (by simp),if_neg (by simp)];exact⟨rfl,rfl⟩
 ·have hb5:=(hbb.setCell (p:=⟨w.heap.size,0,none⟩) (QU _) (.int .i64 (f:Int))).setCell (p:=⟨w.heap.size,1,none⟩) (QU _) (.int .i64 (t:Int))
  exact hb5.alloc hb5.size _
theorem Gc(x y:Int)(w:World):(Instr.field 349 (.agg #[.int .i64 x,.int .i64 y]) 1).run Tryz.prog w=.ok (.int .i64 y) w:=by kernel_rfl
theorem Gd(x y:Int)(w:World):(Instr.field 349 (.agg #[.int .i64 x,.int .i64 y]) 0).run Tryz.prog w=.ok (.int .i64 x) w:=by kernel_rfl
theorem Wu(a:Option Addr)(n c:Nat)(l:List Int)(big:Bool)(k:Nat)(w:World)(ha:Ints w a l)(hn:l.length=n)(h2:n<=4096)(hk:k<n):
  Calls Tryz.prog 279 #[.slice a n c,.int .i64 (k:Int),.bool true,.bool big] w (xV l big true k w):=by
 have HN:=QQ hn;clear hn;have hA:=QD.new w #[.int .i64 0,.int .i64 0] 349;have hb:=QC w (.cells #[.int .i64 0,.int .i64 0] 349);have hn0:¬n=0:=by omega
 have hn1:((n:Int)==0)=false:=by simp;omega
 have QzV:=Gc;have QzW:=Gd;go_enter Tryz.func279,Tryz.ntmps279
 go_wp2_with fail
 refine(U2 a n c l big k _ (ha.below hb) HN.out h2 hk).mono ?_;rintro e w2 ⟨f,t,rfl,hR,hb2⟩;have hA2:=hA.below hb2 hA.lt;have hbb:=QW hb hb.size hb2;have htl:=hR.len;have Ow:=hR.lo;have HR:=QQ hR;clear hR hA hb hb2;go_upto_region 6 with fail
 have hS:=QD.new w2 #[.int .i64 (f:Int),.int .i64 (t:Int)] 349;have hA3:=hA2.alloc (.cells #[.int .i64 (f:Int),.int .i64 (t:Int)] 349);have hb3:=hbb.alloc hbb.size (.cells #[.int .i64 (f:Int),.int .i64 (t:Int)] 349);have hne:w.heap.size≠w2.heap.size:=by have:=hA2.lt;omega
 have hle:=hbb.size;generalize w2.alloc (.cells #[.int .i64 (f:Int),.int .i64 (t:Int)] 349)=w3 at *;generalize w2.heap.size=B3 at *;clear hA2 hbb;have ha3:=ha.below hb3;obtain⟨b1,o1,rfl,hc0⟩:=ha3.at (k:=k) (by rw[HN.out];exact hk);have HC:=QQ (show∀i,i<n->w3.cell? ⟨b1,o1+i,none⟩=some (.int .i64 (ix l i))from fun i hi=>hc0 i (by rw[HN.out];exact hi));clear hc0;have ck:=HC.out k hk;have ik:(k:Int)<(n:Int):=by omega
 go_wp2_with fail
 refine(X5 (ix l k) big _).mono ?_;rintro e w' ⟨rfl,rfl⟩;obtain⟨bl,hbl⟩:∃bl:Bool,(Za (ix l k) big==0)=bl:=⟨_,rfl⟩;have HBL:=QQ hbl;obtain⟨c0,c1,e0,e1⟩:=hS.two;obtain⟨d0,d1,f0,f1⟩:=hA3.two;go_upto_region 7 with fail
 obtain⟨C1,Yw⟩:∃C1:Bool,C1=decide (t<n/\(Za (ix l k) big=0\/Za (ix l t) big=0)):=⟨_,rfl⟩;have HC1:=QQ Yw;clear Yw;obtain⟨W3,hW3⟩:∃W3,W3=w3:=⟨_,rfl⟩
 go_cut [30] (fun v wx=>v=.bool C1/\wx=W3)
 case first=>
  by_cases hlt:t<n
  ·have i1:(t:Int)<(n:Int):=by omega
   rcases bl with _|_
   ·have hbk:Za (ix l k) big≠0:=by simpa using hbl
    have cj:=HC.out t hlt;clear hbl;go_wp2_with fail
    refine(X5 (ix l t) big _).mono ?_;rintro e w' ⟨rfl,rfl⟩;by_cases hkt:Za (ix l t) big=0
    ·have hb1:C1=true:=by rw[HC1.out];simp[hlt,hkt]
     rw[hkt];exact Qug
    ·have hb1:C1=false:=by rw[HC1.out];simp[hlt,hkt,hbk]
     have g1':(Za (ix l t) big==0)=false:=by simpa using hkt
     clear hkt;exact Qug
   ·have hbk:Za (ix l k) big=0:=by simpa using hbl
    have hb1:C1=true:=by rw[HC1.out];simp[hlt,hbk]
    clear hbl hbk;exact Qug
  ·have hb1:C1=false:=by rw[HC1.out];simp[hlt]
   clear hbl;exact Qug
 obtain⟨rfl,hw⟩:=hcut;obtain rfl:w3=wc:=(hw.trans hW3).symm;clear hw hW3 hbl;have hl1:l.length=n:=HN.out;rcases Yw:C1 with _|_
 ·have HNC:=QQ (show¬(t<n/\(Za (ix l k) big=0\/Za (ix l t) big=0)) by have:=HC1.out;rw[Yw]at this;simpa using this.symm)
  subst Yw;clear hl1;go_upto_region 9 with fail
  obtain⟨C2,hC2⟩:∃C2:Bool,C2=decide (Za (ix l k) big≠0/\0<f/\Za (ix l (f-1)) big=0):=⟨_,rfl⟩;have nJ:=QQ hC2;clear hC2;obtain⟨W3,hW3⟩:∃W3,W3=w3:=⟨_,rfl⟩
  go_cut [56] (fun v wx=>v=.bool C2/\wx=W3)
  case first=>
   have hbl:=HBL.out;rcases bl with _|_
   ·have hbk:Za (ix l k) big≠0:=by simpa using hbl
    clear hbl;by_cases hf0:f=0
    ·subst hf0
     have hb1:C2=false:=by rw[nJ.out];simp
     exact Qug
    ·have cj:=HC.out (f-1) (by omega)
     have i1:(0:Int)<(f:Int):=by omega
     have i2:((f:Int)-1).toNat=f-1:=by omega
     have i3:(0:Int)<=(f:Int)-1:=by omega
     have i4:(f:Int)-1<(n:Int):=by omega
     go_wp2_with fail
     refine(X5 (ix l (f-1)) big _).mono ?_;rintro e w' ⟨rfl,rfl⟩;by_cases hkt:Za (ix l (f-1)) big=0
     ·have hb1:C2=true:=by rw[nJ.out];simp[hkt,hbk];omega
      rw[hkt];exact Qug
     ·have hb1:C2=false:=by rw[nJ.out];simp[hkt]
      have g1':(Za (ix l (f-1)) big==0)=false:=by simpa using hkt
      clear hkt;exact Qug
   ·have hbk:Za (ix l k) big=0:=by simpa using hbl
    have hb1:C2=false:=by rw[nJ.out];simp[hbk]
    clear hbl hbk;exact Qug
  obtain⟨rfl,hw⟩:=hcut;obtain rfl:w3=wc:=(hw.trans hW3).symm;clear hw hW3;rcases hC2:C2 with _|_
  ·have HND:=QQ (show¬(Za (ix l k) big≠0/\0<f/\Za (ix l (f-1)) big=0) by have:=nJ.out;rw[hC2]at this;simpa using this.symm)
   subst hC2;go_wp2;obtain⟨z0,z1,-,-⟩:=QD.two ((hA3.set 0 (.int .i64 (f:Int))).set 1 (.int .i64 (t:Int)));refine QV (v:=.tuple #[.agg #[.int .i64 (f:Int),.int .i64 (t:Int)],.int .i64 0]) (by simp[results,Tryz.results279,go_sem,z0,z1]) rfl ?_;exact⟨f,t,rfl,⟨f,t,HR.out,by rw[if_neg (by rw[HN.out];intro h;exact HNC.out h.2),if_neg (by intro h;exact HND.out h.2)];exact⟨rfl,rfl⟩⟩,htl,(hb3.setCell (p:=⟨w.heap.size,0,none⟩) (QU _) _).setCell (p:=⟨w.heap.size,1,none⟩) (QU _) _⟩
  ·have HND:=QQ (show(Za (ix l k) big≠0/\0<f/\Za (ix l (f-1)) big=0) by have:=nJ.out;rw[hC2]at this;simpa using this.symm)
   subst hC2;have hf0:=HND.out.2.1;have i5:(f:Int)-1=((f-1:Nat):Int):=by omega
   go_wp2_with fail
   try rw[i5]
   refine(U2 (some ⟨b1,o1,none⟩) n c l big (f-1) _ ha3 HN.out h2 (by omega)).mono ?_;rintro e w5 ⟨f1,t1,rfl,Jv,hb5⟩;have Og:=QQ Jv;clear Jv;have hS5:=hS.below hb5 hS.lt;have Jk:=hA3.below hb5 hA3.lt;have hb6:=QW hb3 hb3.size hb5;obtain⟨c0,c1,e0,e1⟩:=hS5.two;obtain⟨d0,d1,f0,f1'⟩:=Jk.two;have UF:=Jk.other (a:=⟨B3,0,none⟩) hne (.int .i64 (f1:Int));have qU:=hb6.setCell (p:=⟨B3,0,none⟩) hle (.int .i64 (f1:Int));go_wp2;obtain⟨z0,z1,-,-⟩:=QD.two ((UF.set 0 (.int .i64 (f1:Int))).set 1 (.int .i64 (t:Int)));refine QV (v:=.tuple #[.agg #[.int .i64 (f1:Int),.int .i64 (t:Int)],.int .i64 0]) (by simp[results,Tryz.results279,go_sem,z0,z1]) rfl ?_;exact⟨f1,t,rfl,⟨f,t,HR.out,by rw[if_neg (by rw[HN.out];intro h;exact HNC.out h.2),if_pos ⟨rfl,HND.out⟩];exact⟨rfl,_,Og.out⟩⟩,htl,(qU.setCell (p:=⟨w.heap.size,0,none⟩) (QU _) _).setCell (p:=⟨w.heap.size,1,none⟩) (QU _) _⟩
 ·have HYC:=QQ (show(t<n/\(Za (ix l k) big=0\/Za (ix l t) big=0)) by have:=HC1.out;rw[Yw]at this;simpa using this.symm)
  subst Yw;clear hl1;have htn:=HYC.out.1;go_wp2_with fail
  refine(U2 (some ⟨b1,o1,none⟩) n c l big t _ ha3 HN.out h2 htn).mono ?_;rintro e w5 ⟨f1,t1,rfl,Jv,hb5⟩;have QKV:=Jv.len;have Og:=QQ Jv;clear Jv;have hS5:=hS.below hb5 hS.lt;have Jk:=hA3.below hb5 hA3.lt;have hb6:=QW hb3 hb3.size hb5;obtain⟨c0,c1,e0,e1⟩:=hS5.two;obtain⟨d0,d1,f0,f1'⟩:=Jk.two;have UF:=Jk.other (a:=⟨B3,1,none⟩) hne (.int .i64 (t1:Int));have qU:=hb6.setCell (p:=⟨B3,1,none⟩) hle (.int .i64 (t1:Int));go_wp2;obtain⟨z0,z1,-,-⟩:=QD.two ((UF.set 0 (.int .i64 (f:Int))).set 1 (.int .i64 (t1:Int)));refine QV (v:=.tuple #[.agg #[.int .i64 (f:Int),.int .i64 (t1:Int)],.int .i64 0]) (by simp[results,Tryz.results279,go_sem,z0,z1]) rfl ?_;exact⟨f,t1,rfl,⟨f,t,HR.out,by rw[if_pos (by rw[HN.out];exact⟨rfl,HYC.out⟩)];exact⟨rfl,_,Og.out⟩⟩,QKV,(qU.setCell (p:=⟨w.heap.size,0,none⟩) (QU _) _).setCell (p:=⟨w.heap.size,1,none⟩) (QU _) _⟩
def Yv(l:List Int)(q:Int):Nat->Int
 | 0=> -1
 | i+1=>if ix l i≠q then Yv l q i else if Yv l q i<0 then(i:Int)else-1
theorem qD(l:List Int)(q:Int)(i:Nat): -1<=Yv l q i/\Yv l q i<i:=by
 induction i with
 | zero=>simp[Yv]
 | succ i ih=>
  simp only[Yv]
  repeat' split
  all_goals omega
def Ko(l:List Int)(k:Nat)(q:Int)(i:Nat):Prop:=ix l i=q/\0<=Yv l q i/\k<=i
def I8(l:List Int)(k:Nat)(around:Bool)(q:Int)(w:World)(e:Ending)(w':World):Prop:=
 ((∃i,i<l.length/\Ko l k q i/\(∀j,j<i->¬Ko l k q j)/\
   e=.returned (.tuple #[.agg #[.int .i64 (if around=true then Yv l q i else Yv l q i+1),.int .i64 (if around=true then(i:Int)+1 else(i:Int))],.int .i64 0]))\/
  ((∀i,i<l.length->¬Ko l k q i)/\e=.returned (.tuple #[.agg #[.int .i64 0,.int .i64 0],.int .i64 6])))/\Below w.heap.size w w'
theorem uf(a:Option Addr)(n c:Nat)(l:List Int)(k:Nat)(around:Bool)(q:Int)(w:World)(ha:Ints w a l)(hn:l.length=n)(h2:n<=4096)(hk:k<=4096):
  Calls Tryz.prog 281 #[.slice a n c,.int .i64 (k:Int),.bool around,.int .i64 q] w (I8 l k around q w):=by
 have HN:=QQ hn;clear hn;have hA:=QD.new w #[.int .i64 0,.int .i64 0] 349;have hb:=QC w (.cells #[.int .i64 0,.int .i64 0] 349);go_enter Tryz.func281,Tryz.ntmps281
 go_wp2;generalize w.alloc (.cells #[.int .i64 0,.int .i64 0] 349)=w1 at *;have ha1:=ha.below hb;obtain⟨d0,d1,f0,f1⟩:=hA.two
 go_loopw [15,10] (fun v u wr=>∃i:Nat,v=.int .i64 (i:Int)/\u=.int .i64 (Yv l q i)/\i<=n/\(∀j,j<i->¬Ko l k q j)/\w1=wr) (fun v _ _=>n-(intOf v).toNat)
 case atStart=>exact⟨0,rfl,rfl,by omega,fun j hj=>by omega,rfl⟩
 case round=>
  obtain⟨i,rfl,rfl,hi,hno,rfl⟩:=hrel;have Yr:=QQ hno;clear hno;obtain⟨hp0,hp1⟩:=qD l q i;have HQ:=QQ (show Yv l q (i+1)=if ix l i≠q then Yv l q i else if Yv l q i<0 then(i:Int)else-1 from rfl);obtain⟨p,hp⟩:∃p,Yv l q i=p:=⟨_,rfl⟩;have HP:=QQ hp;rw[hp]at hp0 hp1 ⊢;clear hp;by_cases hlt:i<n
  ·obtain⟨b1,o1,rfl,hc0⟩:=ha1.at (k:=i) (by rw[HN.out];exact hlt)
   have ck:=hc0 i (by rw[HN.out];exact hlt);have ii:(i:Int)<(n:Int):=by omega
   clear hc0;by_cases hq:ix l i=q
   ·have g1:(ix l i !=q)=false:=by simpa using hq
    by_cases hpn:p<0
    ·have HQ2:=QQ (show Yv l q (i+1)=(i:Int) by rw[HQ.out,if_neg (by simpa using hq),if_pos (by rw[HP.out];exact hpn)])
     have iB:=QQ (show¬Ko l k q i from fun h=>by have:=h.2.1;rw[HP.out]at this;omega);exact QuY
    ·by_cases hik:i<k
     ·have HQ2:=QQ (show Yv l q (i+1)= -1 by rw[HQ.out,if_neg (by simpa using hq),if_neg (by rw[HP.out];exact hpn)])
      have iB:=QQ (show¬Ko l k q i from fun h=>by have:=h.2.2;omega);have i2:(i:Int)<(k:Int):=by omega
      exact QuY
     ·have HF:=QQ (show Ko l k q i from⟨hq,by rw[HP.out];omega,by omega⟩)
      have i2:¬(i:Int)<(k:Int):=by omega
      clear hq;rcases around with _|_
      ·go_wp2
       obtain⟨z0,z1,-,-⟩:=QD.two ((hA.set 0 (.int .i64 (p+1))).set 1 (.int .i64 (i:Int)));refine QV (v:=.tuple #[.agg #[.int .i64 (p+1),.int .i64 (i:Int)],.int .i64 0]) (by simp[results,Tryz.results281,go_sem,z0,z1]) rfl ?_;exact QvF
      ·go_wp2
       obtain⟨z0,z1,-,-⟩:=QD.two ((hA.set 0 (.int .i64 p)).set 1 (.int .i64 ((i:Int)+1)));refine QV (v:=.tuple #[.agg #[.int .i64 p,.int .i64 ((i:Int)+1)],.int .i64 0]) (by simp[results,Tryz.results281,go_sem,z0,z1]) rfl ?_;exact QvF
   ·have g1:(ix l i !=q)=true:=by simpa using hq
    have HQ2:=QQ (show Yv l q (i+1)=p by rw[HQ.out,if_pos hq,HP.out]);have iB:=QQ (show¬Ko l k q i from fun h=>hq h.1);exact QuY
  ·go_wp2
   obtain⟨z0,z1,-,-⟩:=QD.two ((hA.set 0 (.int .i64 0)).set 1 (.int .i64 0));refine QV (v:=.tuple #[.agg #[.int .i64 0,.int .i64 0],.int .i64 6]) (by simp[results,Tryz.results281,go_sem,z0,z1]) rfl ?_;exact⟨.inr ⟨fun j hj=>Yr.out j (by rw[HN.out]at hj;omega),rfl⟩,(hb.setCell (p:=⟨w.heap.size,0,none⟩) (QU _) _).setCell (p:=⟨w.heap.size,1,none⟩) (QU _) _⟩
end Go.Proofs.YtmdcencmiopmmaaGreat
