/- joined, no condition of its own. -/
import Derived.Test.YtmdnepkekekncaaGreatJfJ9
set_option linter.unusedVariables false
set_option linter.unusedSimpArgs false
set_option maxRecDepth 100000
set_option maxHeartbeats 12000000
namespace Go.Proofs.YtmdnepkekekncaaGreat
open Go.RowKit
theorem PU.one{base:Nat}{w:World}{vs:List Value}{X:List (List Int)}(h:PU base w vs X):∀v∈vs,v.oneCell'=true:=by
 intro v hv;obtain⟨i,hi,rfl⟩:=ET hv;obtain⟨a,n,c,hv⟩:=h.slv i hi;rw[hv];rfl
theorem uQ(w:World):(w.alloc (.cells (Xo XB) 48)).there w.heap.size 0 27:=by
 intro j hj;have hB:=XG.new w XB 48;rw[XI];exact⟨by rw[hB.cell (by rw[Yd];exact hj)];rfl,hB.free j⟩
theorem Ib{w w':World}{B n:Nat}(h:w.there B 0 n)(hB:B<w.heap.size)(hb:Below w.heap.size w w'):w'.there B 0 n:=by
 intro j hj;obtain⟨h1,h2⟩:=h j hj;rw[XI]at *;refine⟨?_,?_⟩
 ·rw[hb.cell hB];exact h1
 ·rw[hb.frozen hB];exact h2
theorem Ry{P:Nat}{a:Option Addr}{n c:Nat}{rg:Int}{vs:List Value}{w w1 w2:World}(hP:P<w.heap.size)(h:(w1.cell? ⟨P,0,none⟩=some (.slice a n c)/\w1.cell? ⟨P,30,none⟩=some (.int .i64 rg)/\w1.rangeAt P 2 vs/\Below w.heap.size w w1))(hb:Below w.heap.size w1 w2):(w2.cell? ⟨P,0,none⟩=some (.slice a n c)/\w2.cell? ⟨P,30,none⟩=some (.int .i64 rg)/\w2.rangeAt P 2 vs/\Below w.heap.size w w2):=
 ⟨QE5,by rw[hb.cell hP];exact h.2.1,fun j v hv=>by rw[hb.cell hP];exact h.2.2.1 j v hv,h.2.2.2.trans hb⟩
theorem iU{P:Nat}{a:Option Addr}{n c:Nat}{rg:Int}{vs:List Value}{w w1 w2:World}(hP:P<w.heap.size)(h:(w1.cell? ⟨P,0,none⟩=some (.slice a n c)/\w1.cell? ⟨P,30,none⟩=some (.int .i64 rg)/\w1.rangeAt P 2 vs/\Below w.heap.size w w1))(hb:Below w1.heap.size w1 w2):(w2.cell? ⟨P,0,none⟩=some (.slice a n c)/\w2.cell? ⟨P,30,none⟩=some (.int .i64 rg)/\w2.rangeAt P 2 vs/\Below w.heap.size w w2):=Ry hP h (hb.mono h.2.2.2.size)
theorem QYS{P:Nat}{a:Option Addr}{n c:Nat}{rg:Int}{vs:List Value}{w w1:World}(hP:P<w.heap.size)(h:(w1.cell? ⟨P,0,none⟩=some (.slice a n c)/\w1.cell? ⟨P,30,none⟩=some (.int .i64 rg)/\w1.rangeAt P 2 vs/\Below w.heap.size w w1))(o:Obj):((w1.alloc o).cell? ⟨P,0,none⟩=some (.slice a n c)/\(w1.alloc o).cell? ⟨P,30,none⟩=some (.int .i64 rg)/\(w1.alloc o).rangeAt P 2 vs/\Below w.heap.size w (w1.alloc o)):=iU hP h (ZR _ _)
theorem QYR{P:Nat}{a:Option Addr}{n c:Nat}{rg:Int}{vs:List Value}{w w1:World}(hP:P<w.heap.size)(h:(w1.cell? ⟨P,0,none⟩=some (.slice a n c)/\w1.cell? ⟨P,30,none⟩=some (.int .i64 rg)/\w1.rangeAt P 2 vs/\Below w.heap.size w w1))(k:Nat)(cs:List Value)(hB:w.heap.size<=k):((w1.setCells k 0 cs).cell? ⟨P,0,none⟩=some (.slice a n c)/\(w1.setCells k 0 cs).cell? ⟨P,30,none⟩=some (.int .i64 rg)/\(w1.setCells k 0 cs).rangeAt P 2 vs/\Below w.heap.size w (w1.setCells k 0 cs)):=Ry hP h (below_setCells hB cs 0 (ZH _ _))
theorem V5{us vs:List Value}(h:us.length=vs.length):Lj us 0 vs=vs:=by
 apply List.ext_getElem (by rw[vK,h]);intro i h1 h2;have:=zO (us:=us) (o:=0) (vs:=vs) (j:=i) QQ h2;rw[XI]at this;simpa[vx,Zg,h1,h2]using this
theorem iq{P:Nat}{w w8:World}{yB:List Value}{YY:List (List Int)}(hP:P<w.heap.size)(hR:PU w.heap.size w8 yB YY):
  XG ((w8.alloc (.cells (Xo XB) 48)).setCells w8.heap.size 0 yB) w8.heap.size yB 48/\PU (P+1) ((w8.alloc (.cells (Xo XB) 48)).setCells w8.heap.size 0 yB) yB YY:=by
 have hB:=(XG.new w8 XB 48).setCells 0 yB;rw[V5 (by rw[Yd,hR.lv])]at hB;have hb:Below w8.heap.size w8 ((w8.alloc (.cells (Xo XB) 48)).setCells w8.heap.size 0 yB):=(Y9 _ w8.heap.size 0 yB).Xw (ZB _) (ZR _ _);exact⟨hB,⟨hR.lv,hR.lx,fun i hi=>((hR.ow i hi).kept hb).mono (Nat.succ_le_of_lt hP)⟩⟩
theorem iW{P:Nat}{w w8:World}{yB:List Value}{YY:List (List Int)}(hP:P<w.heap.size)(XH:Below (w.alloc (.cells (Xo XB) 48)).heap.size (w.alloc (.cells (Xo XB) 48)).drew w8)(hR:PU (w.alloc (.cells (Xo XB) 48)).heap.size w8 yB YY):
  XG (w8.setCells w.heap.size 0 yB) w.heap.size yB 48/\PU (P+1) (w8.setCells w.heap.size 0 yB) yB YY:=by
 have h0:=(XG.new w XB 48);have h1:XG w8 w.heap.size XB 48:=h0.below (w:=(w.alloc (.cells (Xo XB) 48)).drew) XH QEt;have hB:=h1.setCells 0 yB;rw[V5 (by rw[Yd,hR.lv])]at hB;have hL:=Y9 w8 w.heap.size 0 yB;exact⟨hB,⟨hR.lv,hR.lx,fun i hi=>((hR.ow i hi).left hL (by rw[Zu];exact ZF _)).mono QDV⟩⟩
theorem ru{ops:Array Oper}{rest:List Oper}{op:Oper}{a:Act}{w:World}{Q:Exit->Act->World->Prop}(hgd:op.guard=none)(x y:Operand)(ho:op.op=.store 48 x y)
  (P:Nat) (hx:a.eval x=.pointer (some ⟨P,36,none⟩)) (vs:List Value) (hy:a.eval y=.agg (Xo vs)) (us:List Value) (I:In) (s:St) (h:DI P w us I s) (hl:vs.length=27) (h1:∀v∈vs,v.oneCell'=true)
  (hk:wpList Tryz.prog ops Q rest (a.put op.dst undef) (w.setCells P 36 vs)):wpList Tryz.prog ops Q (op::rest) a w:=by
 refine wpList_store_mid hgd 48 x y ho P 36 (Xo vs) hx hy ?_ (by rw[Yr,hl];exact JF) (Y6 h1) hk;intro j hj;rw[Yr]at hj;exact⟨by rw[h.cell QQ];rfl,h.free _⟩
theorem WS(P f g:Nat)(us:List Value)(I:In)(hI:Je I)(s:St)(w:World)(h:DI P w us I s)(hfg:f<=g)(hgn:g<=I.n):
  Calls Tryz.prog 168 #[.pointer (some ⟨P,0,none⟩),.int .i64 (f:Int),.int .i64 (g:Int)] w (Y5 P I (KE I.X s.cm.b ((I.t.take g).drop f)) (if KE I.X s.cm.b ((I.t.take g).drop f)=0 then {s with Y:=Jh I.X s.cm.b ((I.t.take g).drop f)}else s) w):=by
 have hT:=h.sl hI;have hR:=h.rg hI;have HS:=Zy hI.small;have HI:=Zy hI;have HN:=Zy hI.len;have hcap:=hI.cap;have htop:=hI.top;have HA0:=Zy hI.none;have c0:=h.c0;have UE:=h.UE;have rr:=h.rr hI;have HX:=Zy h;have qd:=h.lt;have hlv:=hI.bH.lv;clear h hI;obtain⟨w0,a,n,c,t,k,vs,X⟩:=I;obtain⟨cm,O,p,Y,fk,fa,md,es⟩:=s;obtain⟨ct,rg,op,vb,ar⟩:=cm;dsimp only at *;obtain⟨y,hy⟩:∃y,(t.take g).drop f=y:=⟨_,rfl⟩;rw[hy];have hcr:=zl a n c f g hfg QQ;have HL:=Zy (show y.length=g-f from QEi);have hcut:=hT.Bt (c:=c) f g QEW hfg (by rw[HN.out];exact hgn);rw[hy]at hcut;have HC0:=Zy (show qO a c f=none->g-f=0 from fun hz=>by have:=HA0.out (Vu hz);omega);obtain⟨aa,Ra⟩:∃aa,qO a c f=aa:=⟨_,rfl⟩;rw[Ra]at hcr hcut HC0;obtain⟨E,hE⟩:∃E,KE X rg y=E:=⟨_,rfl⟩;obtain⟨YY,hYY⟩:∃YY,Jh X rg y=YY:=⟨_,rfl⟩;rw[hE,hYY];have PUT:∀w1,Below w.heap.size w w1->Calls Tryz.prog 178 #[.agg vs.toArray,.int .i64 rg,.slice aa (g-f) (c-f)] w1 (We YY E w1):=fun w1 hb=>by
  rw[<-hE,<-hYY];exact fu vs X rg aa (g-f) (c-f) y w1 (hR.below hb) HS.out (hcut.below hb) HL.out HC0.out QQ
 have HP:=Zy PUT;have hu:=J6;have hz:(Tryz.prog.info? 48).map (·.size)=some vs.length:=by rw[hlv];exact JF
 have hal:=UF;clear hT hR hy hcut Ra PUT hE hYY hgn;go_enter Tryz.func168,Tryz.ntmps168
 go_upto_region 1 with fail
 go_cut [7,8] (fun v e wx=>∃B yB,v=.pointer (some ⟨B,0,none⟩)/\e=.int .i64 E/\w.heap.size<=B/\XG wx B yB 48/\PU (P+1) wx yB YY/\Below w.heap.size w wx)
 case first=>
  go_region_held3 (fun w'=>w'.cell? ⟨P,0,none⟩=some (.slice a n c)/\w'.cell? ⟨P,30,none⟩=some (.int .i64 rg)/\w'.rangeAt P 2 vs/\Below w.heap.size w w') (first|exact⟨c0,UE,rr,(ZH _ _).drew⟩|assumption|exact iU qd ‹_› ‹_› | exact QYS qd ‹_› _|exact QYR qd ‹_› _ _ ‹_›)
   (first|(go_at_call 178;refine(HP.out w.drew (ZH _ _).drew).mono ?_;rintro e w8 ⟨yB,rfl,VJ,XH⟩;have vC:(Tryz.prog.info? 48).map (·.size)=some yB.length:=JF.trans (XD some VJ.lv.symm);have zx:=VJ.lv;have OJ:=VJ.one;have ht8:=uQ w8;have hq8:w.heap.size<=w8.heap.size:=XH.size)|(go_at_call 178;refine(HP.out (w.alloc (.cells #[.slice none 0 0,.slice none 0 0,.slice none 0 0,.slice none 0 0,.slice none 0 0,.slice none 0 0,.slice none 0 0,.slice none 0 0,.slice none 0 0,.slice none 0 0,.slice none 0 0,.slice none 0 0,.slice none 0 0,.slice none 0 0,.slice none 0 0,.slice none 0 0,.slice none 0 0,.slice none 0 0,.slice none 0 0,.slice none 0 0,.slice none 0 0,.slice none 0 0,.slice none 0 0,.slice none 0 0,.slice none 0 0,.slice none 0 0,.slice none 0 0] 48)).drew (ZR w _).drew).mono ?_;rintro e w8 ⟨yB,rfl,VJ,XH⟩;have vC:(Tryz.prog.info? 48).map (·.size)=some yB.length:=JF.trans (XD some VJ.lv.symm);have zx:=VJ.lv;have OJ:=VJ.one;have ht8:w8.there w.heap.size 0 27:=Ib (w:=(w.alloc (.cells #[.slice none 0 0,.slice none 0 0,.slice none 0 0,.slice none 0 0,.slice none 0 0,.slice none 0 0,.slice none 0 0,.slice none 0 0,.slice none 0 0,.slice none 0 0,.slice none 0 0,.slice none 0 0,.slice none 0 0,.slice none 0 0,.slice none 0 0,.slice none 0 0,.slice none 0 0,.slice none 0 0,.slice none 0 0,.slice none 0 0,.slice none 0 0,.slice none 0 0,.slice none 0 0,.slice none 0 0,.slice none 0 0,.slice none 0 0,.slice none 0 0] 48)).drew) (uQ w) QEt XH;have hq8:w.heap.size<=w.heap.size:=ZB _))
  all_goals
   go_wp2;go_meet;rename_i hHeld
   first
    | exact⟨_,_,rfl,rfl,hq8,(iq qd VJ).1,(iq qd VJ).2,hHeld.2.2.2⟩
    | exact⟨_,_,rfl,rfl,hq8,(iW qd XH VJ).1,(iW qd XH VJ).2,hHeld.2.2.2⟩
 obtain⟨B,yB,rfl,rfl,hq8,Uq,VJ,XH⟩:=hcut;have h8:=HX.out.to XH;have zx:=VJ.lv;have OJ:=VJ.one;clear HP HC0 HL hcr hu hz hal c0 UE rr;by_cases h0:E=0
 ·subst h0
  have h9:=h8.rD yB YY VJ;have H9:=Zy h9;have hL:=Y9 wc P 36 yB;have HL9:=Zy hL;clear h9 hL;go_wp2_with (first|(refine UA rfl _ rfl B rfl yB _ Uq zx ?_)|(refine ru rfl _ _ rfl P rfl yB rfl _ _ _ h8 zx OJ ?_))
  go_ret;exact⟨rfl,⟨_,H9.out⟩,(Yk.of XH).trans (Yk.setCells yB)⟩
 ·have n0:(E==0)=false:=by simpa using h0
  have H8:=Zy h8;have HNE:=Zy h0;clear h8 h0;go_wp2;go_ret;exact⟨rfl,⟨_,H8.out⟩,Yk.of XH⟩
structure PK (l:List Int) (big:Bool) (k f t:Nat):Prop where
 lo:f<=k
 hi:k<t
 len:t<=l.length
 same:∀j,f<=j->j<t->X6 (ix l j) big=X6 (ix l k) big
 left:f=0\/X6 (ix l (f-1)) big≠X6 (ix l k) big
 right:t=l.length\/X6 (ix l t) big≠X6 (ix l k) big
theorem PK.one{l:List Int}{big:Bool}{k f t f' t':Nat}(h:PK l big k f t)(h':PK l big k f' t'):f=f'/\t=t':=by
 obtain⟨a1,a2,a3,a4,a5,a6⟩:=h;obtain⟨b1,b2,b3,b4,b5,b6⟩:=h';constructor
 ·rcases XL f f' with h|h|h
  ·rcases b5 with rfl|b5
   ·omega
   ·exact absurd (a4 (f'-1) QQ QQ) b5
  ·exact h
  ·rcases a5 with rfl|a5
   ·omega
   ·exact absurd (b4 (f-1) QQ QQ) a5
 ·rcases XL t t' with h|h|h
  ·rcases a6 with rfl|a6
   ·omega
   ·exact absurd (b4 t QQ h) a6
  ·exact h
  ·rcases b6 with rfl|b6
   ·omega
   ·exact absurd (a4 t' QQ h) b6
def QZZ(l:List Int)(big:Bool)(k:Nat)(w:World)(e:Ending)(w':World):Prop:=
 ∃f t:Nat,e=.returned (.agg #[.int .i64 (f:Int),.int .i64 (t:Int)])/\PK l big k f t/\Below w.heap.size w w'
theorem qQ(a:Option Addr)(n c:Nat)(l:List Int)(big:Bool)(k:Nat)(w:World)(ha:Ints w a l)(hn:l.length=n)(h2:n<=4096)(hk:k<n):
  Calls Tryz.prog 180 #[.slice a n c,.int .i64 (k:Int),.bool big] w (QZZ l big k w):=by
 have HN:=Zy hn;clear hn;obtain⟨b1,o1,rfl,hc0⟩:=ha.at (k:=k) QDr;have HC:=Zy (show∀i,i<n->w.cell? ⟨b1,o1+i,none⟩=some (.int .i64 (ix l i))from fun i hi=>hc0 i (by rw[HN.out];exact hi));clear hc0;have hb:=Zo w (.cells #[.int .i64 0,.int .i64 0] 254) (.cells #[.int .i64 (k:Int),.int .i64 (k:Int)] 254);have hA:=(Za.new w #[.int .i64 0,.int .i64 0] 254).alloc (.cells #[.int .i64 (k:Int),.int .i64 (k:Int)] 254);have hS:=Za.new (w.alloc (.cells #[.int .i64 0,.int .i64 0] 254)) #[.int .i64 (k:Int),.int .i64 (k:Int)] 254;rw[Zu]at hS;have ck:=Zd hb _ _ (HC.out k hk);have ik:(k:Int)<(n:Int):=QQ;go_enter Tryz.func180,Tryz.ntmps180
 go_wp2_with fail
 refine(Jj (ix l k) big _).mono ?_;rintro e w' ⟨rfl,hww⟩;rw[<-hww];clear hww;generalize(w.alloc (.cells #[.int .i64 0,.int .i64 0] 254)).alloc (.cells #[.int .i64 (k:Int),.int .i64 (k:Int)] 254)=w2 at *;obtain⟨kd,hkd⟩:∃kd,X6 (ix l k) big=kd:=⟨_,rfl⟩;rw[hkd];have HKD:=Zy hkd;clear hkd ck;go_upto_block 0 with fail
 go_cut [] (fun wx=>∃f:Nat,f<=k/\(∀j,f<=j->j<=k->X6 (ix l j) big=kd)/\(f=0\/X6 (ix l (f-1)) big≠kd)/\Za wx w.heap.size #[.int .i64 0,.int .i64 0] 254/\Za wx (w.heap.size+1) #[.int .i64 (f:Int),.int .i64 (k:Int)] 254/\Below w.heap.size w wx)
 case first=>
  go_wp2
  go_loopg [] k (fun g wr=>∃f:Nat,f<=g/\f<=k/\Aside ((∀j,f<=j->j<=k->X6 (ix l j) big=kd)/\Za wr w.heap.size #[.int .i64 0,.int .i64 0] 254/\Za wr (w.heap.size+1) #[.int .i64 (f:Int),.int .i64 (k:Int)] 254/\Below w.heap.size w wr))
  case atStart=>
   refine⟨k,QQ,QQ,?_⟩;show _/\_;refine⟨fun j h1 h2=>?_,hA,hS,hb⟩;obtain rfl:j=k:=QQ;exact HKD.out
  case round=>
   obtain⟨f,hfg,bP,hrest⟩:=hrel;obtain⟨hsame,hAr,hSr,hbr⟩:=show _/\_ from hrest;clear hrest hA hS hb;have HSA:=Zy hsame;clear hsame;obtain⟨c0,c1,e0,e1⟩:=hSr.two;by_cases hf0:f=0
   ·subst hf0
    go_wp2;go_meet;exact⟨0,QQ,HSA.out,.inl rfl,hAr,hSr,hbr⟩
   ·have cj:=HC.out (f-1) QQ
    rw[<-hbr.cell (Xb cj)]at cj;have i1:(0:Int)<(f:Int):=QQ;have i2:((f:Int)-1).toNat=f-1:=QQ;have i3:(0:Int)<=(f:Int)-1:=QQ;have i4:(f:Int)-1<(n:Int):=QQ;go_wp2_with fail
    refine(Jj (ix l (f-1)) big _).mono ?_;rintro e w' ⟨rfl,rfl⟩;by_cases hsm:X6 (ix l (f-1)) big=kd
    ·have Mo:=Zy hsm
     rw[hsm];clear hsm;go_wp2
     go_roundg (f-1)
     case measure=>omega
     case rel=>
      refine⟨f-1,QQ,QQ,?_⟩;show _/\_;refine⟨fun j h1 h2=>?_,hAr.other (by show w.heap.size≠w.heap.size+1;omega) _,?_,hbr.setCell (p:=⟨w.heap.size+1,0,none⟩) (ZA _) _⟩
      ·by_cases e:j=f-1
       ·rw[e];exact Mo.out
       ·exact HSA.out j QQ h2
      ·rw[show((f-1:Nat):Int)=(f:Int)-1 from QQ];exact hSr.set 0 (.int .i64 ((f:Int)-1))
    ·have b1':(X6 (ix l (f-1)) big==kd)=false:=by simpa using hsm
     have Mo:=Zy hsm;clear hsm;go_wp2;go_meet;exact⟨f,bP,HSA.out,.inr Mo.out,hAr,hSr,hbr⟩
 clear hA hS hb;obtain⟨f,bP,hsame,hleft,hA,hS,hb⟩:=hcut;have HSA:=Zy hsame;have bW:=Zy hleft;clear hsame hleft;go_wp2
 go_loopg [] (n-k) (fun g wr=>∃t:Nat,n-t<=g/\k<=t/\t<=n/\Aside ((∀j,f<=j->j<t->X6 (ix l j) big=kd)/\Za wr w.heap.size #[.int .i64 0,.int .i64 0] 254/\Za wr (w.heap.size+1) #[.int .i64 (f:Int),.int .i64 (t:Int)] 254/\Below w.heap.size w wr))
 case atStart=>
  refine⟨k,QQ,QQ,QQ,?_⟩;show _/\_;exact⟨fun j h1 h2=>HSA.out j h1 QQ,hA,hS,hb⟩
 case round=>
  clear hA hS hb;obtain⟨t,htg,hkt,htn,hrest⟩:=hrel;obtain⟨hsame,hAr,hSr,hbr⟩:=show _/\_ from hrest;clear hrest;have HST:=Zy hsame;clear hsame;obtain⟨c0,c1,e0,e1⟩:=hSr.two;obtain⟨d0,d1,f0,f1⟩:=hAr.two;by_cases hlt:t<n
  ·have cj:=HC.out t hlt
   rw[<-hbr.cell (Xb cj)]at cj;have i1:(t:Int)<(n:Int):=QQ;go_wp2_with fail
   refine(Jj (ix l t) big _).mono ?_;rintro e w' ⟨rfl,rfl⟩;by_cases hsm:X6 (ix l t) big=kd
   ·have Mo:=Zy hsm
    rw[hsm];clear hsm;go_wp2
    go_roundg (n-(t+1))
    case measure=>omega
    case rel=>
     refine⟨t+1,QQ,QQ,QQ,?_⟩;show _/\_;refine⟨fun j h1 h2=>?_,hAr.other (by show w.heap.size≠w.heap.size+1;omega) _,hSr.set 1 (.int .i64 ((t+1:Nat):Int)),hbr.setCell (p:=⟨w.heap.size+1,1,none⟩) (ZA _) _⟩;by_cases e:j=t
     ·rw[e];exact Mo.out
     ·exact HST.out j h1 QQ
   ·have b1':(X6 (ix l t) big==kd)=false:=by simpa using hsm
    have Mo:=Zy hsm;have QxY:k<t:=by
     rcases Z9 k t with h|h
     ·exact h
     ·obtain rfl:t=k:=by omega
      exact absurd HKD.out hsm
    clear hsm;go_wp2;obtain⟨y0,y1,-,-⟩:=Za.two ((hAr.set 0 (.int .i64 (f:Int))).set 1 (.int .i64 (t:Int)));refine ZC (v:=.agg #[.int .i64 (f:Int),.int .i64 (t:Int)]) (by simp[results,Tryz.results180,go_sem,y0,y1]) rfl ?_;exact⟨f,t,rfl,⟨bP,QxY,QB,fun j h1 h2=>by rw[HKD.out];exact HST.out j h1 h2,by rw[HKD.out];exact bW.out,.inr (by rw[HKD.out];exact Mo.out)⟩,(hbr.setCell (p:=⟨w.heap.size,0,none⟩) (ZB _) _).setCell (p:=⟨w.heap.size,1,none⟩) (ZB _) _⟩
  ·obtain rfl:n=t:=by omega
   go_wp2;obtain⟨y0,y1,-,-⟩:=Za.two ((hAr.set 0 (.int .i64 (f:Int))).set 1 (.int .i64 (n:Int)));refine ZC (v:=.agg #[.int .i64 (f:Int),.int .i64 (n:Int)]) (by simp[results,Tryz.results180,go_sem,y0,y1]) rfl ?_;exact⟨f,n,rfl,⟨bP,hk,QB,fun j h1 h2=>by rw[HKD.out];exact HST.out j h1 h2,by rw[HKD.out];exact bW.out,.inl HN.out.symm⟩,(hbr.setCell (p:=⟨w.heap.size,0,none⟩) (ZB _) _).setCell (p:=⟨w.heap.size,1,none⟩) (ZB _) _⟩
def zD(l:List Int)(big around:Bool)(k f t:Nat):Prop:=
 ∃f0 t0,PK l big k f0 t0/\
  (
   if around=true/\t0<l.length/\(X6 (ix l k) big=0\/X6 (ix l t0) big=0)then f=f0/\∃f1,PK l big t0 f1 t
   else if around=true/\X6 (ix l k) big≠0/\0<f0/\X6 (ix l (f0-1)) big=0 then t=t0/\∃t1,PK l big (f0-1) f t1
   else f=f0/\t=t0)
theorem zD.one{l:List Int}{big around:Bool}{k f t f' t':Nat}(h:zD l big around k f t)(h':zD l big around k f' t'):f=f'/\t=t':=by
 obtain⟨f0,t0,h1,h2⟩:=h;obtain⟨g0,u0,h3,h4⟩:=h';obtain⟨rfl,rfl⟩:=h1.one h3;split at h2
 ·rename_i hc
  rw[if_pos hc]at h4;obtain⟨rfl,f1,h5⟩:=h2;obtain⟨rfl,f2,h6⟩:=h4;exact⟨rfl,(h5.one h6).2⟩
 ·rename_i hc
  rw[if_neg hc]at h4;split at h2
  ·rename_i hd
   rw[if_pos hd]at h4;obtain⟨rfl,f1,h5⟩:=h2;obtain⟨rfl,f2,h6⟩:=h4;exact⟨(h5.one h6).1,rfl⟩
  ·rename_i hd
   rw[if_neg hd]at h4;exact⟨h2.1.trans h4.1.symm,h2.2.trans h4.2.symm⟩
def kN(l:List Int)(big around:Bool)(k:Nat)(w:World)(e:Ending)(w':World):Prop:=
 ∃f t:Nat,e=.returned (.tuple #[.agg #[.int .i64 (f:Int),.int .i64 (t:Int)],.int .i64 0])/\zD l big around k f t/\t<=l.length/\Below w.heap.size w w'
theorem yT(c k:Nat)(a:Option Addr)(around big:Bool)(w:World):
  Calls Tryz.prog 170 #[.slice a 0 c,.int .i64 (k:Int),.bool around,.bool big] w fun e w'=>e=.returned (.tuple #[.agg #[.int .i64 0,.int .i64 0],.int .i64 6])/\Below w.heap.size w w':=by
 have hA:=Za.new w #[.int .i64 0,.int .i64 0] 254;obtain⟨y0,y1,-,-⟩:=hA.two;have hb:=ZR w (.cells #[.int .i64 0,.int .i64 0] 254);go_enter Tryz.func170,Tryz.ntmps170
 go_wp2;refine ZC (v:=.tuple #[.agg #[.int .i64 0,.int .i64 0],.int .i64 6]) (by simp[results,Tryz.results170,go_sem,y0,y1]) rfl ?_;exact⟨rfl,hb⟩
theorem uH(a:Option Addr)(n c:Nat)(l:List Int)(big:Bool)(k:Nat)(w:World)(ha:Ints w a l)(hn:l.length=n)(h2:n<=4096)(hk:k<n):
  Calls Tryz.prog 170 #[.slice a n c,.int .i64 (k:Int),.bool false,.bool big] w (kN l big false k w):=by
 have HN:=Zy hn;clear hn;have hA:=Za.new w #[.int .i64 0,.int .i64 0] 254;have hb:=ZR w (.cells #[.int .i64 0,.int .i64 0] 254);have hn0:¬n=0:=QQ;have hn1:((n:Int)==0)=false:=QY;go_enter Tryz.func170,Tryz.ntmps170
 go_wp2_with fail
 refine(qQ a n c l big k _ (ha.below hb) HN.out h2 hk).mono ?_;rintro e w2 ⟨f,t,rfl,hR,hb2⟩;have hA2:=hA.below hb2 hA.lt;have hbb:=ZE hb hb.size hb2;obtain⟨d0,d1,g0,g1⟩:=hA2.two;have hz:=hA2.lt;have htl:=hR.len;have HR:=Zy hR;clear hR;go_wp2;have hA3:=Za.alloc ((hA2.set 0 (.int .i64 (f:Int))).set 1 (.int .i64 (t:Int))) (.cells #[.int .i64 (f:Int),.int .i64 (t:Int)] 254);obtain⟨y0,y1,-,-⟩:=Za.two hA3;refine ZC (v:=.tuple #[.agg #[.int .i64 (f:Int),.int .i64 (t:Int)],.int .i64 0]) (by simp[results,Tryz.results170,go_sem,y0,y1]) rfl ?_;refine⟨f,t,rfl,⟨f,t,HR.out,?_⟩,htl,?_⟩
 ·rw[if_neg QJ,if_neg QJ];exact⟨rfl,rfl⟩
 ·have hb5:=(hbb.setCell (p:=⟨w.heap.size,0,none⟩) (ZB _) (.int .i64 (f:Int))).setCell (p:=⟨w.heap.size,1,none⟩) (ZB _) (.int .i64 (t:Int))
  exact hb5.alloc hb5.size _
theorem ND(x y:Int)(w:World):(Instr.field 254 (.agg #[.int .i64 x,.int .i64 y]) 1).run Tryz.prog w=.ok (.int .i64 y) w:=QX
theorem NF(x y:Int)(w:World):(Instr.field 254 (.agg #[.int .i64 x,.int .i64 y]) 0).run Tryz.prog w=.ok (.int .i64 x) w:=QX
theorem xY(a:Option Addr)(n c:Nat)(l:List Int)(big:Bool)(k:Nat)(w:World)(ha:Ints w a l)(hn:l.length=n)(h2:n<=4096)(hk:k<n):
  Calls Tryz.prog 170 #[.slice a n c,.int .i64 (k:Int),.bool true,.bool big] w (kN l big true k w):=by
 have HN:=Zy hn;clear hn;have hA:=Za.new w #[.int .i64 0,.int .i64 0] 254;have hb:=ZR w (.cells #[.int .i64 0,.int .i64 0] 254);have hn0:¬n=0:=QQ;have hn1:((n:Int)==0)=false:=QY;have Qvy:=ND;have Qvj:=NF;go_enter Tryz.func170,Tryz.ntmps170
 go_wp2_with fail
 refine(qQ a n c l big k _ (ha.below hb) HN.out h2 hk).mono ?_;rintro e w2 ⟨f,t,rfl,hR,hb2⟩;have hA2:=hA.below hb2 hA.lt;have hbb:=ZE hb hb.size hb2;have htl:=hR.len;have bP:=hR.lo;have HR:=Zy hR;clear hR hA hb hb2;go_upto_region 6 with fail
 have hS:=Za.new w2 #[.int .i64 (f:Int),.int .i64 (t:Int)] 254;have hA3:=hA2.alloc (.cells #[.int .i64 (f:Int),.int .i64 (t:Int)] 254);have hb3:=hbb.alloc hbb.size (.cells #[.int .i64 (f:Int),.int .i64 (t:Int)] 254);have hne:w.heap.size≠w2.heap.size:=by have:=hA2.lt;omega
 have hle:=hbb.size;generalize w2.alloc (.cells #[.int .i64 (f:Int),.int .i64 (t:Int)] 254)=w3 at *;generalize w2.heap.size=B3 at *;clear hA2 hbb;have ha3:=ha.below hb3;obtain⟨b1,o1,rfl,hc0⟩:=ha3.at (k:=k) QDr;have HC:=Zy (show∀i,i<n->w3.cell? ⟨b1,o1+i,none⟩=some (.int .i64 (ix l i))from fun i hi=>hc0 i (by rw[HN.out];exact hi));clear hc0;have ck:=HC.out k hk;have ik:(k:Int)<(n:Int):=QQ;go_wp2_with fail
 refine(Jj (ix l k) big _).mono ?_;rintro e w' ⟨rfl,rfl⟩;obtain⟨bl,hbl⟩:∃bl:Bool,(X6 (ix l k) big==0)=bl:=⟨_,rfl⟩;have HBL:=Zy hbl;obtain⟨c0,c1,e0,e1⟩:=hS.two;obtain⟨d0,d1,f0,f1⟩:=hA3.two;go_upto_region 7 with fail
 obtain⟨C1,KR⟩:∃C1:Bool,C1=decide (t<n/\(X6 (ix l k) big=0\/X6 (ix l t) big=0)):=⟨_,rfl⟩;have HC1:=Zy KR;clear KR;obtain⟨W3,hW3⟩:∃W3,W3=w3:=⟨_,rfl⟩
 go_cut [30] (fun v wx=>v=.bool C1/\wx=W3)
 case first=>
  by_cases hlt:t<n
  ·have i1:(t:Int)<(n:Int):=by omega
   rcases bl with _|_
   ·have hbk:X6 (ix l k) big≠0:=by simpa using hbl
    have cj:=HC.out t hlt;clear hbl;go_wp2_with fail
    refine(Jj (ix l t) big _).mono ?_;rintro e w' ⟨rfl,rfl⟩;by_cases hkt:X6 (ix l t) big=0
    ·have hb1:C1=true:=by rw[HC1.out];simp[hlt,hkt]
     rw[hkt];exact QHu
    ·have hb1:C1=false:=by rw[HC1.out];simp[hlt,hkt,hbk]
     have g1':(X6 (ix l t) big==0)=false:=by simpa using hkt
     clear hkt;exact QHu
   ·have hbk:X6 (ix l k) big=0:=by simpa using hbl
    have hb1:C1=true:=by rw[HC1.out];simp[hlt,hbk]
    clear hbl hbk;exact QHu
  ·have hb1:C1=false:=by rw[HC1.out];simp[hlt]
   clear hbl;exact QHu
 obtain⟨rfl,hw⟩:=hcut;obtain rfl:w3=wc:=(hw.trans hW3).symm;clear hw hW3 hbl;have hl1:l.length=n:=HN.out;rcases KR:C1 with _|_
 ·have HNC:=Zy (show¬(t<n/\(X6 (ix l k) big=0\/X6 (ix l t) big=0)) from QE8)
  subst KR;clear hl1;go_upto_region 9 with fail
  obtain⟨C2,hC2⟩:∃C2:Bool,C2=decide (X6 (ix l k) big≠0/\0<f/\X6 (ix l (f-1)) big=0):=⟨_,rfl⟩;have cZ:=Zy hC2;clear hC2;obtain⟨W3,hW3⟩:∃W3,W3=w3:=⟨_,rfl⟩
  go_cut [56] (fun v wx=>v=.bool C2/\wx=W3)
  case first=>
   have hbl:=HBL.out;rcases bl with _|_
   ·have hbk:X6 (ix l k) big≠0:=by simpa using hbl
    clear hbl;by_cases hf0:f=0
    ·subst hf0
     have hb1:C2=false:=by rw[cZ.out];simp
     exact QHu
    ·have cj:=HC.out (f-1) QQ
     have i1:(0:Int)<(f:Int):=QQ;have i2:((f:Int)-1).toNat=f-1:=QQ;have i3:(0:Int)<=(f:Int)-1:=QQ;have i4:(f:Int)-1<(n:Int):=QQ;go_wp2_with fail
     refine(Jj (ix l (f-1)) big _).mono ?_;rintro e w' ⟨rfl,rfl⟩;by_cases hkt:X6 (ix l (f-1)) big=0
     ·have hb1:C2=true:=by rw[cZ.out];simp[hkt,hbk];omega
      rw[hkt];exact QHu
     ·have hb1:C2=false:=by rw[cZ.out];simp[hkt]
      have g1':(X6 (ix l (f-1)) big==0)=false:=by simpa using hkt
      clear hkt;exact QHu
   ·have hbk:X6 (ix l k) big=0:=by simpa using hbl
    have hb1:C2=false:=by rw[cZ.out];simp[hbk]
    clear hbl hbk;exact QHu
  obtain⟨rfl,hw⟩:=hcut;obtain rfl:w3=wc:=(hw.trans hW3).symm;clear hw hW3;rcases hC2:C2 with _|_
  ·have HND:=Zy (show¬(X6 (ix l k) big≠0/\0<f/\X6 (ix l (f-1)) big=0) from QE6)
   subst hC2;go_wp2;obtain⟨z0,z1,-,-⟩:=Za.two ((hA3.set 0 (.int .i64 (f:Int))).set 1 (.int .i64 (t:Int)));refine ZC (v:=.tuple #[.agg #[.int .i64 (f:Int),.int .i64 (t:Int)],.int .i64 0]) QDg rfl ?_;exact⟨f,t,rfl,⟨f,t,HR.out,by rw[if_neg (by rw[HN.out];intro h;exact HNC.out h.2),if_neg (by intro h;exact HND.out h.2)];exact⟨rfl,rfl⟩⟩,htl,(hb3.setCell (p:=⟨w.heap.size,0,none⟩) (ZB _) _).setCell (p:=⟨w.heap.size,1,none⟩) (ZB _) _⟩
  ·have HND:=Zy (show(X6 (ix l k) big≠0/\0<f/\X6 (ix l (f-1)) big=0) from QE6)
   subst hC2;have hf0:=HND.out.2.1;have i5:(f:Int)-1=((f-1:Nat):Int):=QQ;go_wp2_with fail
   try rw[i5]
   refine(qQ (some ⟨b1,o1,none⟩) n c l big (f-1) _ ha3 HN.out h2 QQ).mono ?_;rintro e w5 ⟨f1,t1,rfl,KQ,hb5⟩;have bK:=Zy KQ;clear KQ;have hS5:=hS.below hb5 hS.lt;have Kn:=hA3.below hb5 hA3.lt;have hb6:=ZE hb3 hb3.size hb5;obtain⟨c0,c1,e0,e1⟩:=hS5.two;obtain⟨d0,d1,f0,f1'⟩:=Kn.two;have Wy:=Kn.other (a:=⟨B3,0,none⟩) hne (.int .i64 (f1:Int));have WC:=hb6.setCell (p:=⟨B3,0,none⟩) hle (.int .i64 (f1:Int));go_wp2;obtain⟨z0,z1,-,-⟩:=Za.two ((Wy.set 0 (.int .i64 (f1:Int))).set 1 (.int .i64 (t:Int)));refine ZC (v:=.tuple #[.agg #[.int .i64 (f1:Int),.int .i64 (t:Int)],.int .i64 0]) QDg rfl ?_;exact⟨f1,t,rfl,⟨f,t,HR.out,by rw[if_neg (by rw[HN.out];intro h;exact HNC.out h.2),if_pos ⟨rfl,HND.out⟩];exact⟨rfl,_,bK.out⟩⟩,htl,(WC.setCell (p:=⟨w.heap.size,0,none⟩) (ZB _) _).setCell (p:=⟨w.heap.size,1,none⟩) (ZB _) _⟩
 ·have HYC:=Zy (show(t<n/\(X6 (ix l k) big=0\/X6 (ix l t) big=0)) from QE8)
  subst KR;clear hl1;have htn:=HYC.out.1;go_wp2_with fail
  refine(qQ (some ⟨b1,o1,none⟩) n c l big t _ ha3 HN.out h2 htn).mono ?_;rintro e w5 ⟨f1,t1,rfl,KQ,hb5⟩;have Qze:=KQ.len;have bK:=Zy KQ;clear KQ;have hS5:=hS.below hb5 hS.lt;have Kn:=hA3.below hb5 hA3.lt;have hb6:=ZE hb3 hb3.size hb5;obtain⟨c0,c1,e0,e1⟩:=hS5.two;obtain⟨d0,d1,f0,f1'⟩:=Kn.two;have Wy:=Kn.other (a:=⟨B3,1,none⟩) hne (.int .i64 (t1:Int));have WC:=hb6.setCell (p:=⟨B3,1,none⟩) hle (.int .i64 (t1:Int));go_wp2;obtain⟨z0,z1,-,-⟩:=Za.two ((Wy.set 0 (.int .i64 (f:Int))).set 1 (.int .i64 (t1:Int)));refine ZC (v:=.tuple #[.agg #[.int .i64 (f:Int),.int .i64 (t1:Int)],.int .i64 0]) QDg rfl ?_;exact⟨f,t1,rfl,⟨f,t,HR.out,by rw[if_pos (by rw[HN.out];exact⟨rfl,HYC.out⟩)];exact⟨rfl,_,bK.out⟩⟩,Qze,(WC.setCell (p:=⟨w.heap.size,0,none⟩) (ZB _) _).setCell (p:=⟨w.heap.size,1,none⟩) (ZB _) _⟩
def Ja(l:List Int)(q:Int):Nat->Int
 | 0=> -1
 | i+1=>if ix l i≠q then Ja l q i else if Ja l q i<0 then(i:Int)else-1
theorem yI(l:List Int)(q:Int)(i:Nat): -1<=Ja l q i/\Ja l q i<i:=by
 induction i with
 | zero=>simp[Ja]
 | succ i ih=>
  simp only[Ja]
  repeat' split
  all_goals omega
def Vd(l:List Int)(k:Nat)(q:Int)(i:Nat):Prop:=ix l i=q/\0<=Ja l q i/\k<=i
def Pq(l:List Int)(k:Nat)(around:Bool)(q:Int)(w:World)(e:Ending)(w':World):Prop:=
 ((∃i,i<l.length/\Vd l k q i/\(∀j,j<i->¬Vd l k q j)/\
   e=.returned (.tuple #[.agg #[.int .i64 (if around=true then Ja l q i else Ja l q i+1),.int .i64 (if around=true then(i:Int)+1 else(i:Int))],.int .i64 0]))\/
  ((∀i,i<l.length->¬Vd l k q i)/\e=.returned (.tuple #[.agg #[.int .i64 0,.int .i64 0],.int .i64 6])))/\Below w.heap.size w w'
theorem Cs(a:Option Addr)(n c:Nat)(l:List Int)(k:Nat)(around:Bool)(q:Int)(w:World)(ha:Ints w a l)(hn:l.length=n)(h2:n<=4096)(hk:k<=4096):
  Calls Tryz.prog 172 #[.slice a n c,.int .i64 (k:Int),.bool around,.int .i64 q] w (Pq l k around q w):=by
 have HN:=Zy hn;clear hn;have hA:=Za.new w #[.int .i64 0,.int .i64 0] 254;have hb:=ZR w (.cells #[.int .i64 0,.int .i64 0] 254);go_enter Tryz.func172,Tryz.ntmps172
 go_wp2;generalize w.alloc (.cells #[.int .i64 0,.int .i64 0] 254)=w1 at *;have ha1:=ha.below hb;obtain⟨d0,d1,f0,f1⟩:=hA.two
 go_loopw [15,10] (fun v u wr=>∃i:Nat,v=.int .i64 (i:Int)/\u=.int .i64 (Ja l q i)/\i<=n/\(∀j,j<i->¬Vd l k q j)/\w1=wr) (fun v _ _=>n-(intOf v).toNat)
 case atStart=>exact⟨0,rfl,rfl,QQ,fun j hj=>QQ,rfl⟩
 case round=>
  obtain⟨i,rfl,rfl,hi,hno,rfl⟩:=hrel;have JM:=Zy hno;clear hno;obtain⟨hp0,hp1⟩:=yI l q i;have HQ:=Zy (show Ja l q (i+1)=if ix l i≠q then Ja l q i else if Ja l q i<0 then(i:Int)else-1 from rfl);obtain⟨p,hp⟩:∃p,Ja l q i=p:=⟨_,rfl⟩;have HP:=Zy hp;rw[hp]at hp0 hp1 ⊢;clear hp;by_cases hlt:i<n
  ·obtain⟨b1,o1,rfl,hc0⟩:=ha1.at (k:=i) QW
   have ck:=hc0 i QW;have ii:(i:Int)<(n:Int):=QQ;clear hc0;by_cases hq:ix l i=q
   ·have g1:(ix l i !=q)=false:=by simpa using hq
    by_cases hpn:p<0
    ·have Rs:=Zy (show Ja l q (i+1)=(i:Int) by rw[HQ.out,if_neg (by simpa using hq),if_pos (by rw[HP.out];exact hpn)])
     have HNF:=Zy (show¬Vd l k q i from fun h=>by have:=h.2.1;rw[HP.out]at this;omega);exact QGi
    ·by_cases hik:i<k
     ·have Rs:=Zy (show Ja l q (i+1)= -1 by rw[HQ.out,if_neg (by simpa using hq),if_neg (by rw[HP.out];exact hpn)])
      have HNF:=Zy (show¬Vd l k q i from fun h=>by have:=h.2.2;omega);have i2:(i:Int)<(k:Int):=QQ;exact QGi
     ·have HF:=Zy (show Vd l k q i from⟨hq,ZV,QQ⟩)
      have i2:¬(i:Int)<(k:Int):=QQ;clear hq;rcases around with _|_
      ·go_wp2
       obtain⟨z0,z1,-,-⟩:=Za.two ((hA.set 0 (.int .i64 (p+1))).set 1 (.int .i64 (i:Int)));refine ZC (v:=.tuple #[.agg #[.int .i64 (p+1),.int .i64 (i:Int)],.int .i64 0]) QDe rfl ?_;exact QIK
      ·go_wp2
       obtain⟨z0,z1,-,-⟩:=Za.two ((hA.set 0 (.int .i64 p)).set 1 (.int .i64 ((i:Int)+1)));refine ZC (v:=.tuple #[.agg #[.int .i64 p,.int .i64 ((i:Int)+1)],.int .i64 0]) QDe rfl ?_;exact QIK
   ·have g1:(ix l i !=q)=true:=by simpa using hq
    have Rs:=Zy (show Ja l q (i+1)=p by rw[HQ.out,if_pos hq,HP.out]);have HNF:=Zy (show¬Vd l k q i from fun h=>hq h.1);exact QGi
  ·go_wp2
   obtain⟨z0,z1,-,-⟩:=Za.two ((hA.set 0 (.int .i64 0)).set 1 (.int .i64 0));refine ZC (v:=.tuple #[.agg #[.int .i64 0,.int .i64 0],.int .i64 6]) QDe rfl ?_;exact⟨.inr ⟨fun j hj=>JM.out j QEV,rfl⟩,(hb.setCell (p:=⟨w.heap.size,0,none⟩) (ZB _) _).setCell (p:=⟨w.heap.size,1,none⟩) (ZB _) _⟩
theorem Co{l:List Int}{n k:Nat}{r:Int}(h:Jn l n k r)(hk:k<n): -1<=r/\r<n:=by
 unfold Jn at h;split at h
 ·omega
 ·split at h
  ·rcases h with⟨t,h1,_,_,rfl⟩|⟨_,rfl⟩
   ·show-1<=((k-t:Nat):Int)/\((k-t:Nat):Int)<n;omega
   ·omega
  ·rcases h with⟨t,h1,_,_,rfl⟩|⟨_,rfl⟩
   ·show-1<=((k+t:Nat):Int)/\((k+t:Nat):Int)<n;omega
   ·omega
def WB(l ps:List Int)(k:Nat)(o:Int)(i:Nat):Prop:=ix l i=o/\(k:Int)<=ix ps i
def Hf(l ps:List Int)(k:Nat)(around:Bool)(o:Int)(w:World)(e:Ending)(w':World):Prop:=
 ((∃i,i<l.length/\i<=k/\WB l ps k o i/\(∀j,i<j->j<=k->j<l.length->¬WB l ps k o j)/\
   e=.returned (.tuple #[.agg #[.int .i64 (if around=true then(i:Int)else(i:Int)+1),.int .i64 (if around=true then ix ps i+1 else ix ps i)],.int .i64 0]))\/
  ((∀i,i<l.length->i<=k->¬WB l ps k o i)/\e=.returned (.tuple #[.agg #[.int .i64 0,.int .i64 0],.int .i64 6])))/\Below w.heap.size w w'
theorem uI(a:Option Addr)(n c:Nat)(l ps:List Int)(hps:(Jr l n n).out=ps)(k:Nat)(around:Bool)(o:Int)(w:World)(ha:Ints w a l)(hn:l.length=n)(h2:n<=4096)(hk:k<=4096):
  Calls Tryz.prog 171 #[.slice a n c,.int .i64 (k:Int),.bool around,.int .i64 o] w (Hf l ps k around o w):=by
 have HN:=Zy hn;clear hn;have HPS:=Zy hps;clear hps;have bf:=Zy (fun i (hi:i<n)=>(by rw[<-HPS.out];exact Co (KG l n i hi) hi: -1<=ix ps i/\ix ps i<n));have HPL:=Zy (show ps.length=n by rw[<-HPS.out];exact zY l n n);have hA:=Za.new w #[.int .i64 0,.int .i64 0] 254;have hb:=ZR w (.cells #[.int .i64 0,.int .i64 0] 254);go_enter Tryz.func171,Tryz.ntmps171
 go_wp2_with fail
 refine(Bp a n c l _ (ha.below hb) HN.out h2).mono ?_;rintro e w2 ⟨g,rfl,hI,hb2⟩;have hA2:=hA.below hb2 hA.lt;have hbb:=ZE hb hb.size hb2;have ha2:=ha.below hbb;clear hA hb hb2;rw[HPS.out]at hI;obtain⟨d0,d1,f0,f1⟩:=hA2.two;have hcell:∀i,i<n->w2.cell? ⟨g,i,none⟩=some (.int .i64 (ix ps i)):=fun i hi=>by
  obtain⟨b4,o4,hb4,hc4⟩:=hI.at (k:=i) (by rw[HPL.out];exact hi);simp only[ZL,YR]at hb4;obtain⟨rfl,rfl,-⟩:=hb4;have:=hc4 i (by rw[HPL.out];exact hi)
  rwa[XI]at this
 have HCL:=Zy hcell;clear hcell hI;go_wp2
 all_goals
  go_loopw [12] (fun v wr=>∃j:Nat,v=.int .i64 ((j:Int)-1)/\j<=n/\j<=k+1/\(∀i,j<=i->i<=k->i<n->¬WB l ps k o i)/\w2=wr) (fun v _=>(intOf v+1).toNat)
  case atStart=>
   first
   | exact⟨k+1,Qy,QQ,QQ,fun i h1 h2 h3=>QQ,rfl⟩
   | exact⟨n,Qy,QQ,QQ,fun i h1 h2 h3=>QQ,rfl⟩
  case round=>
   obtain⟨j,rfl,hj,hjk,hno,rfl⟩:=hrel;have JM:=Zy hno;clear hno;by_cases hj0:j=0
   ·subst hj0
    go_wp2;obtain⟨z0,z1,-,-⟩:=Za.two ((hA2.set 0 (.int .i64 0)).set 1 (.int .i64 0));refine ZC (v:=.tuple #[.agg #[.int .i64 0,.int .i64 0],.int .i64 6]) QDf rfl ?_;exact⟨.inr ⟨fun i h1 h2=>JM.out i QQ h2 (by rw[HN.out]at h1;exact h1),rfl⟩,(hbb.setCell (p:=⟨w.heap.size,0,none⟩) (ZB _) _).setCell (p:=⟨w.heap.size,1,none⟩) (ZB _) _⟩
   ·obtain⟨i,rfl⟩:∃i,j=i+1:=⟨j-1,QQ⟩
    have hin:i<n:=QQ;obtain⟨b1,o1,rfl,hc0⟩:=ha2.at (k:=i) QDH;have ck:=hc0 i QDH;have cp:=HCL.out i hin;obtain⟨hr0,hr1⟩:=bf.out i hin;have ij:((i+1:Nat):Int)-1=(i:Int):=QQ;have ii:(i:Int)<(n:Int):=QQ;rw[ij];clear hc0;by_cases hq:ix l i=o
    ·have g1:(ix l i==o)=true:=by simpa using hq
     by_cases hp:(k:Int)<=ix ps i
     ·have HF:=Zy (show WB l ps k o i from⟨hq,hp⟩)
      clear hq
      first
      | (exfalso;omega)
      | (
       rcases around with _|_
       ·go_wp2
        obtain⟨z0,z1,-,-⟩:=Za.two ((hA2.set 0 (.int .i64 ((i:Int)+1))).set 1 (.int .i64 (ix ps i)));refine ZC (v:=.tuple #[.agg #[.int .i64 ((i:Int)+1),.int .i64 (ix ps i)],.int .i64 0]) QDf rfl ?_;exact⟨.inl ⟨i,QDH,QQ,HF.out,fun j h1 h2 h3=>JM.out j QQ h2 (by rw[HN.out]at h3;exact h3),rfl⟩,(hbb.setCell (p:=⟨w.heap.size,0,none⟩) (ZB _) _).setCell (p:=⟨w.heap.size,1,none⟩) (ZB _) _⟩
       ·go_wp2
        obtain⟨z0,z1,-,-⟩:=Za.two ((hA2.set 0 (.int .i64 (i:Int))).set 1 (.int .i64 (ix ps i+1)));refine ZC (v:=.tuple #[.agg #[.int .i64 (i:Int),.int .i64 (ix ps i+1)],.int .i64 0]) QDf rfl ?_;exact⟨.inl ⟨i,QDH,QQ,HF.out,fun j h1 h2 h3=>JM.out j QQ h2 (by rw[HN.out]at h3;exact h3),rfl⟩,(hbb.setCell (p:=⟨w.heap.size,0,none⟩) (ZB _) _).setCell (p:=⟨w.heap.size,1,none⟩) (ZB _) _⟩)
     ·have HNF:=Zy (show¬WB l ps k o i from fun h=>hp h.2)
      exact QHF
    ·have g1:(ix l i==o)=false:=by simpa using hq
     have HNF:=Zy (show¬WB l ps k o i from fun h=>hq h.1);exact QHF
end Go.Proofs.YtmdnepkekekncaaGreat
